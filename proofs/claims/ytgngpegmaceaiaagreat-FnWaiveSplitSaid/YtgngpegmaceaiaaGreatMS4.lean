/-
  Contracts of functions and plain facts that the last text of this folder uses, part 4.
-/
import Derived.Test.YtgngpegmaceaiaaGreatMS3
namespace Go.Proofs.YtgngpegmaceaiaaGreat
set_option linter.unusedVariables false
set_option linter.unusedSimpArgs false
open Go
set_option maxRecDepth 20000
set_option linter.unusedSimpArgs false
variable {G : Gh} {L : List Ch} {R : Value → Gh → List Ch → Prop}
theorem RIn_valid {r : Rect} : validRect r = true ↔ RIn 40 r := by simp [validRect, RIn]; omega
theorem RIn_all {xs : List Rect} (h : isReg xs = true) : ∀ r ∈ xs, RIn 40 r := by
  have := isReg_valid h
  simp only [validRs, Bool.and_eq_true, List.all_eq_true] at this
  exact fun r hr => RIn_valid.1 (this.2 r hr)
theorem RIn_gd {b : Int} {xs : List Rect} (h : ∀ r ∈ xs, RIn b r) {i : Nat} (hi : i < xs.length) : RIn b (gd xs i) := by rw [gd_eq hi]; exact h _ (List.getElem_mem _)
theorem boxOf_s {v : Value} {xs : List Rect} (h1 : Rs G L rectT v xs) (h0 : 0 < xs.length) (k : R (vrect (boxL xs)) G L) : CallT Tryz.prog 184 #[v] G L R := by
  refine CallT.bd h1 fun hb => ?_
  refine CallT.enter (args := _) Tryz.func184 rfl rfl (by kernel_rfl) rfl ?_
  refine WP.seq ?_
  refine WP.region ?_
  refine RG.ot rfl (OT.alloc rfl Zr101 fun b2 => ?_)
  refine RG.nil ?_
  refine WP.seq ?_
  refine WP.region ?_
  refine RG.pv rfl (PV.move (v := v) rfl rfl) ?_
  refine RG.pv rfl (PV.idxS (j := 0) (v := v) rfl Is35 rfl (SlF.r h1) rfl (by omega) (by omega)) ?_
  refine RG.pv rfl (PV.loadE rfl Ag101 rfl rfl (El.r h1 (getG (by omega)))) ?_
  refine RG.ot rfl (OT.alloc rfl Zr101 fun b3 => ?_)
  refine RG.ot rfl (OT.storeW (vs := [vi _, vi _, vi _, vi _]) rfl Sz101 rfl rfl (Cl.c rfl) rfl rfl (OneC.c rfl) ?_)
  refine RG.nil ?_
  refine WP.seq ?_
  refine WP.seq ?_
  refine WP.region ?_
  refine RG.pv rfl (PV.move (v := v) rfl rfl) ?_
  refine RG.pv rfl (PV.len (v := v) rfl Tryz.underlying35 rfl (SlF.r h1)) ?_
  refine RG.pv rfl (PV.mvI (.inl rfl) rfl) ?_
  refine RG.nil ?_
  refine WP.block ?_
  refine WP.loop2 [2, 3, 9, 10] (fun (i : Nat) (a : Rect) => i ≤ xs.length ∧ a = boxFrom (gd xs 0) (xs.take i)) (fun (i : Nat) (a : Rect) => [(11, vi i)]) (fun (i : Nat) (a : Rect) => blk b3 101 (rectT.enc a) :: blk b2 101 [vi 0, vi 0, vi 0, vi 0] :: L) (fun (i : Nat) (a : Rect) => xs.length - i) 0 (gd xs 0) ⟨by omega, rfl⟩ ⟨rfl, trivial⟩ Cv.p ?_
  rintro i a τ ⟨hi, ha⟩
  refine WP.seq ?_
  refine WP.region ?_
  refine RG.pv rfl (PV.lss rfl rfl rfl) ?_
  refine RG.nil ?_
  refine WP.seq ?_
  refine WP.cond rfl (fun h2 => ?_) (fun h2 => ?_)
  · have h2 := of_decide_eq_true h2
    refine WP.skip ?_
    refine WP.seq ?_
    refine WP.block ?_
    refine WP.seq ?_
    refine WP.region ?_
    refine RG.pv rfl (PV.idxS (v := v) rfl Is35 rfl (SlF.r h1) rfl rfl (by omega)) ?_
    refine RG.pv rfl (PV.loadE rfl Ag101 rfl rfl (El.r h1 (getG (by omega)))) ?_
    refine RG.ot rfl (OT.alloc rfl Zr101 fun b5 => ?_)
    refine RG.ot rfl (OT.storeW (vs := [vi _, vi _, vi _, vi _]) rfl Sz101 rfl rfl (Cl.c rfl) rfl rfl (OneC.c rfl) ?_)
    refine RG.nil ?_
    refine WP.region ?_
    refine RG.pv rfl (PV.field rfl Fo101_0 rfl) ?_
    refine RG.pv rfl (PV.load1 rfl Sc2 rfl (Rd.blk rfl)) ?_
    refine RG.pv rfl (PV.field rfl Fo101_0 rfl) ?_
    refine RG.pv rfl (PV.load1 rfl Sc2 rfl (Rd.blk rfl)) ?_
    refine RG.pv rfl (PV.min2 rfl rfl rfl) ?_
    refine RG.pv rfl (PV.field rfl Fo101_1 rfl) ?_
    refine RG.pv rfl (PV.load1 rfl Sc2 rfl (Rd.blk rfl)) ?_
    refine RG.pv rfl (PV.field rfl Fo101_1 rfl) ?_
    refine RG.pv rfl (PV.load1 rfl Sc2 rfl (Rd.blk rfl)) ?_
    refine RG.pv rfl (PV.min2 rfl rfl rfl) ?_
    refine RG.pv rfl (PV.field rfl Fo101_2 rfl) ?_
    refine RG.pv rfl (PV.load1 rfl Sc2 rfl (Rd.blk rfl)) ?_
    refine RG.pv rfl (PV.field rfl Fo101_2 rfl) ?_
    refine RG.pv rfl (PV.load1 rfl Sc2 rfl (Rd.blk rfl)) ?_
    refine RG.pv rfl (PV.max2 rfl rfl rfl) ?_
    refine RG.pv rfl (PV.field rfl Fo101_3 rfl) ?_
    refine RG.pv rfl (PV.load1 rfl Sc2 rfl (Rd.blk rfl)) ?_
    refine RG.pv rfl (PV.field rfl Fo101_3 rfl) ?_
    refine RG.pv rfl (PV.load1 rfl Sc2 rfl (Rd.blk rfl)) ?_
    refine RG.pv rfl (PV.max2 rfl rfl rfl) ?_
    refine RG.pv rfl (PV.build (vs := [(0, [vi _]), (1, [vi _]), (2, [vi _]), (3, [vi _])]) (out := [_, _, _, _]) rfl Zr101 Pl101 ⟨rfl, (Cl.c rfl), ⟨rfl, (Cl.c rfl), ⟨rfl, (Cl.c rfl), ⟨rfl, (Cl.c rfl), trivial⟩⟩⟩⟩ rfl) ?_
    refine RG.ot rfl (OT.storeW (vs := [vi _, vi _, vi _, vi _]) rfl Sz101 rfl rfl (Cl.c rfl) rfl rfl (OneC.c rfl) ?_)
    refine RG.nil ?_
    refine WP.region ?_
    refine RG.pv rfl (PV.add rfl rfl rfl (by omega)) ?_
    refine RG.pv rfl (PV.mvI (.inl rfl) rfl) ?_
    refine RG.nil ?_
    exact ⟨rfl, i + 1, (joinR a (gd xs i)), ⟨by omega, by rw [boxFrom_take (by omega), ha]⟩, ⟨rfl, trivial⟩, ⟨rfl, rfl, rfl, rfl, trivial⟩, Cv.p, by omega⟩
  · have h2 := of_decide_eq_false h2
    have e : a = boxL xs := by rw [ha, List.take_of_length_le (by omega)]; rfl
    rw [← e] at k
    refine WP.exit ?_
    refine WP.seq ?_
    refine WP.region ?_
    refine RG.pv rfl (PV.loadW rfl Ag101 rfl rfl) ?_
    refine RG.ot rfl (OT.storeW (vs := [vi _, vi _, vi _, vi _]) rfl Sz101 rfl rfl (Cl.c rfl) rfl rfl (OneC.c rfl) ?_)
    refine RG.nil ?_
    refine WP.ret ?_
    exact ⟨_, _, ResV.one rfl (RV1.cell rfl Ag101 rfl), Cv.p, k⟩
theorem l02Box_s {v : Value} {xs : List Rect} (h1 : Rs G L rectT v xs) (h0 : 0 < xs.length) (k : R (vrect (boxL xs)) G L) : CallT Tryz.prog 221 #[v] G L R := by
  refine CallT.bd h1 fun hb => ?_
  refine CallT.enter (args := _) Tryz.func221 rfl rfl (by kernel_rfl) rfl ?_
  refine WP.seq ?_
  refine WP.region ?_
  refine RG.ot rfl (OT.alloc rfl Zr101 fun b2 => ?_)
  refine RG.nil ?_
  refine WP.seq ?_
  refine WP.region ?_
  refine RG.pv rfl (PV.move (v := v) rfl rfl) ?_
  refine RG.pv rfl (PV.idxS (j := 0) (v := v) rfl Is35 rfl (SlF.r h1) rfl (by omega) (by omega)) ?_
  refine RG.pv rfl (PV.loadE rfl Ag101 rfl rfl (El.r h1 (getG (by omega)))) ?_
  refine RG.ot rfl (OT.alloc rfl Zr101 fun b3 => ?_)
  refine RG.ot rfl (OT.storeW (vs := [vi _, vi _, vi _, vi _]) rfl Sz101 rfl rfl (Cl.c rfl) rfl rfl (OneC.c rfl) ?_)
  refine RG.nil ?_
  refine WP.seq ?_
  refine WP.seq ?_
  refine WP.region ?_
  refine RG.pv rfl (PV.mvI (.inr rfl) rfl) ?_
  refine RG.nil ?_
  refine WP.block ?_
  refine WP.loop2 [0, 2, 3] (fun (i : Nat) (a : Rect) => 1 ≤ i ∧ i ≤ xs.length ∧ a = boxFrom (gd xs 0) (xs.take i)) (fun (i : Nat) (a : Rect) => [(4, vi i)]) (fun (i : Nat) (a : Rect) => blk b3 101 (rectT.enc a) :: blk b2 101 [vi 0, vi 0, vi 0, vi 0] :: L) (fun (i : Nat) (a : Rect) => xs.length - i) 1 (gd xs 0) ⟨by omega, by omega, (boxFrom_one h0).symm⟩ ⟨rfl, trivial⟩ Cv.p ?_
  rintro i a τ ⟨hi0, hi, ha⟩
  refine WP.seq ?_
  refine WP.seq ?_
  refine WP.region ?_
  refine RG.pv rfl (PV.mvI (.inl rfl) rfl) ?_
  refine RG.pv rfl (PV.move (v := v) rfl rfl) ?_
  refine RG.pv rfl (PV.len (v := v) rfl Tryz.underlying35 rfl (SlF.r h1)) ?_
  refine RG.pv rfl (PV.lss rfl rfl rfl) ?_
  refine RG.nil ?_
  refine WP.cond rfl (fun h2 => ?_) (fun h2 => ?_)
  · have h2 := of_decide_eq_true h2
    refine WP.skip ?_
    refine WP.seq ?_
    refine WP.block ?_
    refine WP.seq ?_
    refine WP.region ?_
    refine RG.pv rfl (PV.move (v := v) rfl rfl) ?_
    refine RG.pv rfl (PV.mvI (.inl rfl) rfl) ?_
    refine RG.pv rfl (PV.idxS (v := v) rfl Is35 rfl (SlF.r h1) rfl rfl (by omega)) ?_
    refine RG.pv rfl (PV.loadE rfl Ag101 rfl rfl (El.r h1 (getG (by omega)))) ?_
    refine RG.ot rfl (OT.alloc rfl Zr101 fun b5 => ?_)
    refine RG.ot rfl (OT.storeW (vs := [vi _, vi _, vi _, vi _]) rfl Sz101 rfl rfl (Cl.c rfl) rfl rfl (OneC.c rfl) ?_)
    refine RG.nil ?_
    refine WP.region ?_
    refine RG.pv rfl (PV.field rfl Fo101_0 rfl) ?_
    refine RG.pv rfl (PV.load1 rfl Sc2 rfl (Rd.blk rfl)) ?_
    refine RG.pv rfl (PV.field rfl Fo101_0 rfl) ?_
    refine RG.pv rfl (PV.load1 rfl Sc2 rfl (Rd.blk rfl)) ?_
    refine RG.pv rfl (PV.min2 rfl rfl rfl) ?_
    refine RG.pv rfl (PV.field rfl Fo101_1 rfl) ?_
    refine RG.pv rfl (PV.load1 rfl Sc2 rfl (Rd.blk rfl)) ?_
    refine RG.pv rfl (PV.field rfl Fo101_1 rfl) ?_
    refine RG.pv rfl (PV.load1 rfl Sc2 rfl (Rd.blk rfl)) ?_
    refine RG.pv rfl (PV.min2 rfl rfl rfl) ?_
    refine RG.pv rfl (PV.field rfl Fo101_2 rfl) ?_
    refine RG.pv rfl (PV.load1 rfl Sc2 rfl (Rd.blk rfl)) ?_
    refine RG.pv rfl (PV.field rfl Fo101_2 rfl) ?_
    refine RG.pv rfl (PV.load1 rfl Sc2 rfl (Rd.blk rfl)) ?_
    refine RG.pv rfl (PV.max2 rfl rfl rfl) ?_
    refine RG.pv rfl (PV.field rfl Fo101_3 rfl) ?_
    refine RG.pv rfl (PV.load1 rfl Sc2 rfl (Rd.blk rfl)) ?_
    refine RG.pv rfl (PV.field rfl Fo101_3 rfl) ?_
    refine RG.pv rfl (PV.load1 rfl Sc2 rfl (Rd.blk rfl)) ?_
    refine RG.pv rfl (PV.max2 rfl rfl rfl) ?_
    refine RG.pv rfl (PV.build (vs := [(0, [vi _]), (1, [vi _]), (2, [vi _]), (3, [vi _])]) (out := [_, _, _, _]) rfl Zr101 Pl101 ⟨rfl, (Cl.c rfl), ⟨rfl, (Cl.c rfl), ⟨rfl, (Cl.c rfl), ⟨rfl, (Cl.c rfl), trivial⟩⟩⟩⟩ rfl) ?_
    refine RG.ot rfl (OT.storeW (vs := [vi _, vi _, vi _, vi _]) rfl Sz101 rfl rfl (Cl.c rfl) rfl rfl (OneC.c rfl) ?_)
    refine RG.nil ?_
    refine WP.region ?_
    refine RG.pv rfl (PV.mvI (.inl rfl) rfl) ?_
    refine RG.pv rfl (PV.add rfl rfl rfl (by omega)) ?_
    refine RG.pv rfl (PV.mvI (.inr rfl) rfl) ?_
    refine RG.nil ?_
    exact ⟨rfl, i + 1, (joinR a (gd xs i)), ⟨by omega, by omega, by rw [boxFrom_take (by omega), ha]⟩, ⟨rfl, trivial⟩, ⟨rfl, rfl, rfl, trivial⟩, Cv.p, by omega⟩
  · have h2 := of_decide_eq_false h2
    have e : a = boxL xs := by rw [ha, List.take_of_length_le (by omega)]; rfl
    rw [← e] at k
    refine WP.exit ?_
    refine WP.seq ?_
    refine WP.region ?_
    refine RG.pv rfl (PV.loadW rfl Ag101 rfl rfl) ?_
    refine RG.ot rfl (OT.storeW (vs := [vi _, vi _, vi _, vi _]) rfl Sz101 rfl rfl (Cl.c rfl) rfl rfl (OneC.c rfl) ?_)
    refine RG.nil ?_
    refine WP.ret ?_
    exact ⟨_, _, ResV.one rfl (RV1.cell rfl Ag101 rfl), Cv.p, k⟩
theorem hash_s {v : Value} {h : Int} {l : List Int} (h1 : Rs G L intT v l) (hh : 0 ≤ h ∧ h < 2147483647) (hl : ∀ i, i < l.length → 0 ≤ gd l i ∧ gd l i ≤ 4294967296) (k : R (vi (hashL h l)) G L) : CallT Tryz.prog 128 #[vi h, v] G L R := by
  refine CallT.bd h1 fun hb => ?_
  refine CallT.enter (args := _) Tryz.func128 rfl rfl (by kernel_rfl) rfl ?_
  refine WP.seq ?_
  refine WP.region ?_
  refine RG.pv rfl (PV.mvI (.inr rfl) rfl) ?_
  refine RG.nil ?_
  refine WP.seq ?_
  refine WP.seq ?_
  refine WP.region ?_
  refine RG.pv rfl (PV.move (v := v) rfl rfl) ?_
  refine RG.pv rfl (PV.len (v := v) rfl Tryz.underlying134 rfl (SlF.r h1)) ?_
  refine RG.pv rfl (PV.mvI (.inl rfl) rfl) ?_
  refine RG.nil ?_
  refine WP.block ?_
  refine WP.loop2 [7, 8] (fun (i : Nat) (g : Int) => i ≤ l.length ∧ g = hashL h (l.take i)) (fun (i : Nat) (g : Int) => [(9, vi i), (0, vi g)]) (fun (i : Nat) (g : Int) => L) (fun (i : Nat) (g : Int) => l.length - i) 0 h ⟨by omega, rfl⟩ ⟨rfl, rfl, trivial⟩ Cv.p ?_
  rintro i g τ ⟨hi, hg⟩
  refine WP.seq ?_
  refine WP.region ?_
  refine RG.pv rfl (PV.lss rfl rfl rfl) ?_
  refine RG.nil ?_
  refine WP.seq ?_
  have hgb := hashL_bd (l.take i) hh
  rw [← hg] at hgb
  refine WP.cond rfl (fun h2 => ?_) (fun h2 => ?_)
  · have h2 := of_decide_eq_true h2
    have hli := hl i (by omega)
    refine WP.skip ?_
    refine WP.seq ?_
    refine WP.block ?_
    refine WP.seq ?_
    refine WP.region ?_
    refine RG.pv rfl (PV.idxS (v := v) rfl Is134 rfl (SlF.r h1) rfl rfl (by omega)) ?_
    refine RG.pv rfl (PV.loadE1 rfl Sc2 rfl rfl (El.r h1 (getG (by omega))) rfl) ?_
    refine RG.pv rfl (PV.mvI (.inr rfl) rfl) ?_
    refine RG.nil ?_
    refine WP.region ?_
    refine RG.pv rfl (PV.mvI (.inl rfl) rfl) ?_
    refine RG.pv rfl (PV.mul rfl rfl rfl (by omega)) ?_
    refine RG.pv rfl (PV.mvI (.inl rfl) rfl) ?_
    refine RG.pv rfl (PV.add rfl rfl rfl (by omega)) ?_
    refine RG.pv rfl (PV.add rfl rfl rfl (by omega)) ?_
    refine RG.pv rfl (PV.rem rfl rfl rfl (by omega) (by omega) (by omega)) ?_
    refine RG.pv rfl (PV.mvI (.inr rfl) rfl) ?_
    refine RG.nil ?_
    refine WP.region ?_
    refine RG.pv rfl (PV.add rfl rfl rfl (by omega)) ?_
    refine RG.pv rfl (PV.mvI (.inl rfl) rfl) ?_
    refine RG.nil ?_
    exact ⟨rfl, i + 1, _, ⟨by omega, by rw [hashL_take (by omega), ← hg]; rfl⟩, ⟨rfl, rfl, trivial⟩, ⟨rfl, rfl, trivial⟩, Cv.p, by omega⟩
  · have h2 := of_decide_eq_false h2
    have e : g = hashL h l := by rw [hg, List.take_of_length_le (by omega)]
    rw [← e] at k
    refine WP.exit ?_
    refine WP.seq ?_
    refine WP.region ?_
    refine RG.pv rfl (PV.mvI (.inl rfl) rfl) ?_
    refine RG.pv rfl (PV.mvI (.inr rfl) rfl) ?_
    refine RG.nil ?_
    refine WP.ret ?_
    exact ⟨_, _, ResV.one rfl rfl, Cv.p, k⟩
theorem l22Hash_s {h n : Int} (hh : 0 ≤ h ∧ h < 2147483647) (hl : 0 ≤ n ∧ n ≤ 4294967296) (k : R (vi (hashI h n)) G L) : CallT Tryz.prog 124 #[vi h, vi n] G L R := by
  refine CallT.enter (args := _) Tryz.func124 rfl rfl (by kernel_rfl) rfl ?_
  refine WP.seq ?_
  refine WP.region ?_
  refine RG.pv rfl (PV.mvI (.inr rfl) rfl) ?_
  refine RG.nil ?_
  refine WP.seq ?_
  refine WP.region ?_
  refine RG.pv rfl (PV.mvI (.inl rfl) rfl) ?_
  refine RG.pv rfl (PV.mul rfl rfl rfl (by omega)) ?_
  refine RG.pv rfl (PV.mvI (.inl rfl) rfl) ?_
  refine RG.pv rfl (PV.add rfl rfl rfl (by omega)) ?_
  refine RG.pv rfl (PV.add rfl rfl rfl (by omega)) ?_
  refine RG.pv rfl (PV.rem rfl rfl rfl (by omega) (by omega) (by omega)) ?_
  refine RG.pv rfl (PV.mvI (.inr rfl) rfl) ?_
  refine RG.nil ?_
  refine WP.ret ?_
  exact ⟨_, _, ResV.one rfl rfl, Cv.p, k⟩
def movedOk (t : Trans) (xs : List Rect) : Bool := xs.all fun r => validRect (moveR t r)
def movedR (t : Trans) (xs : List Rect) : List Rect := bif movedOk t xs then canon (bits (xs.map (moveR t))) else []
theorem l03Moved_s {t : Trans} {v : Value} {xs : List Rect} (h1 : Rs G L rectT v xs) (hb2 : xs.length ≤ 1048576) (ho : 0 ≤ t.o ∧ t.o ≤ 7) (ht : -1000 ≤ t.x ∧ t.x ≤ 1000 ∧ -1000 ≤ t.y ∧ t.y ≤ 1000) (hr : ∀ i, i < xs.length → RIn 40 (gd xs i))
    (k : ∀ v', R (.tuple #[v', .bool (movedOk t xs)]) G (osl 101 rectT v' (movedR t xs) :: L)) : CallT Tryz.prog 222 #[vtrans t, v] G L R := by
  refine CallT.enter (args := _) Tryz.func222 rfl rfl (by kernel_rfl) rfl ?_
  refine WP.seq ?_
  refine WP.region ?_
  refine RG.ot rfl (OT.box (cs := transT.enc t) rfl rfl rfl fun b2 => ?_)
  refine RG.pv rfl (PV.asg rfl rfl) ?_
  refine RG.pv rfl (PV.mvB (.inr rfl) rfl) ?_
  refine RG.nil ?_
  refine WP.seq ?_
  refine WP.region ?_
  refine RG.ot rfl (OT.bslice (F := rectT) (els := []) rfl El35 rfl (by decide) rfl (by decide) trivial fun v9 => ?_)
  refine RG.pv rfl (PV.asg (v := v9) rfl rfl) ?_
  refine RG.nil ?_
  refine WP.seq ?_
  refine WP.seq ?_
  refine WP.region ?_
  refine RG.pv rfl (PV.mvI (.inr rfl) rfl) ?_
  refine RG.nil ?_
  refine WP.block ?_
  refine WP.loop3 [1, 2] (fun (i : Nat) (ys : List Rect) (u : Value) => i ≤ xs.length ∧ ys = (xs.take i).map (moveR t) ∧ ∀ j, j < ys.length → validRect (gd ys j) = true) (fun (i : Nat) (ys : List Rect) (u : Value) => [(7, vi i), (6, u)]) (fun (i : Nat) (ys : List Rect) (u : Value) => osl 101 rectT u ys :: blk b2 190 (transT.enc t) :: L) (fun (i : Nat) (ys : List Rect) (u : Value) => xs.length - i) 0 [] v9 ⟨by omega, rfl, fun j hj => by simp at hj⟩ ⟨rfl, rfl, trivial⟩ Cv.p ?_
  rintro i ys u τ ⟨hi, hys, hva⟩
  refine WP.seq ?_
  refine WP.seq ?_
  refine WP.region ?_
  refine RG.pv rfl (PV.mvI (.inl rfl) rfl) ?_
  refine RG.pv rfl (PV.move (v := v) rfl rfl) ?_
  refine RG.pv rfl (PV.len (v := v) rfl Tryz.underlying35 rfl (SlF.r h1)) ?_
  refine RG.pv rfl (PV.lss rfl rfl rfl) ?_
  refine RG.nil ?_
  have hyl : ys.length = i := by rw [hys]; simp; omega
  refine WP.cond rfl (fun h2 => ?_) (fun h2 => ?_)
  · have h2 := of_decide_eq_true h2
    refine WP.skip ?_
    refine WP.seq ?_
    refine WP.block ?_
    refine WP.cut1 [1, 2, 6, 7] (fun (b8 : Nat) => True) (fun (b8 : Nat) => [(8, .pointer (some ⟨b8, 0, none⟩))]) (fun (b8 : Nat) => blk b8 101 (rectT.enc (moveR t (gd xs i))) :: osl 101 rectT u ys :: blk b2 190 (transT.enc t) :: L) ?_ ?_
    refine WP.regionH0 (.q 0 (.q 1 (.q 2 (.q 3 (.q 4 (.b 5 (.l 6 (.l 7 Sch.nil)) 6 (.l 5 (.l 7 Sch.nil)))))))) (by kernel_rfl) (by kernel_rfl) (by kernel_rfl) rfl ?_
    refine RH.pv rfl (fun _ _ _ _ h => h) (Gh.le_refl _) PickC.pick rfl (PV.loadW rfl Ag190 rfl rfl) ?_
    refine RH.pv rfl (fun _ _ _ _ h => h) (Gh.le_refl _) PickC.pick rfl (PV.move (v := v) rfl rfl) ?_
    refine RH.pv rfl (fun _ _ _ _ h => h) (Gh.le_refl _) PickC.pick rfl (PV.mvI (.inl rfl) rfl) ?_
    refine RH.pv rfl (fun _ _ _ _ h => h) (Gh.le_refl _) PickC.pick rfl (PV.idxS (v := v) rfl Is35 rfl (SlF.r h1) rfl rfl (by omega)) ?_
    refine RH.pv rfl (fun _ _ _ _ h => h) (Gh.le_refl _) PickC.pick rfl (PV.loadE rfl Ag101 rfl rfl (El.r h1 (getG (by omega)))) ?_
    · refine RH.ot2 rfl rfl rfl rfl  (OT.callF (vs := [_, _]) rfl En220 rfl (moveRect_r ho ht (hr i (by omega)) ⟨Gh.le_refl _, PickC.pick, ?_⟩)) (OT.alloc rfl Zr101 fun b8 => ⟨Gh.le_refl _, PickC.pick, ?_⟩)
      · refine RH.ot rfl rfl (OT.alloc rfl Zr101 fun b8 => ⟨Gh.le_refl _, PickC.pick, ?_⟩)
        refine RH.ot rfl rfl (OT.storeW (vs := [vi _, vi _, vi _, vi _]) rfl Sz101 rfl rfl (Cl.c rfl) rfl rfl (OneC.c rfl) ⟨Gh.le_refl _, PickC.pick, ?_⟩)
        refine RH.nil ?_
        exact ⟨rfl, b8, trivial, ⟨rfl, trivial⟩, ⟨rfl, rfl, rfl, rfl, trivial⟩, Cv.p⟩
      · refine RH.ot rfl rfl (OT.callF (vs := [_, _]) rfl En220 rfl (moveRect_r ho ht (hr i (by omega)) ⟨Gh.le_refl _, PickC.pick, ?_⟩))
        refine RH.ot rfl rfl (OT.storeW (vs := [vi _, vi _, vi _, vi _]) rfl Sz101 rfl rfl (Cl.c rfl) rfl rfl (OneC.c rfl) ⟨Gh.le_refl _, PickC.pick, ?_⟩)
        refine RH.nil ?_
        exact ⟨rfl, b8, trivial, ⟨rfl, trivial⟩, ⟨rfl, rfl, rfl, rfl, trivial⟩, Cv.p⟩
    · rintro b8 τ1 -
      refine WP.seq ?_
      refine WP.seq ?_
      refine WP.region ?_
      refine RG.pv rfl (PV.loadW rfl Ag101 rfl rfl) ?_
      refine RG.callF (vs := [_]) rfl rfl En186 rfl (validRect_s' ?_)
      refine RG.pv rfl (PV.not rfl rfl) ?_
      refine RG.nil ?_
      refine WP.cond rfl (fun h3 => ?_) (fun h3 => ?_)
      · have e1 : movedOk t xs = false := by
          rw [movedOk, List.all_eq_false]
          exact ⟨gd xs i, by rw [gd_eq (by omega)]; exact List.getElem_mem _, by simpa using h3⟩
        have e2 : movedR t xs = [] := by rw [movedR, e1]; rfl
        rw [e1, e2] at k
        refine WP.seq ?_
        refine WP.region ?_
        refine RG.pv rfl (PV.asg rfl rfl) ?_
        refine RG.pv rfl (PV.mvB (.inr rfl) rfl) ?_
        refine RG.nil ?_
        refine WP.ret ?_
        exact ⟨_, _, ResV.two rfl rfl rfl, Cv.nilP, k (.slice none 0 0)⟩
      · have h4 : validRect (moveR t (gd xs i)) = true := by simpa using h3
        refine WP.skip ?_
        refine WP.region ?_
        refine RG.pv rfl (PV.move (v := u) rfl rfl) ?_
        refine RG.pv rfl (PV.loadW rfl Ag101 rfl rfl) ?_
        refine RG.ot rfl (OT.bslice (F := rectT) (els := [⟨_, _, _, _⟩]) rfl El35 rfl (by decide) rfl (by decide) ⟨rfl, (Cl.c rfl), trivial⟩ fun v27 => ?_)
        refine RG.ot rfl (OT.append (v := u) (u := v27) (F := rectT) rfl El35 rfl (by decide) rfl rfl Rs.o (OneL.c (fun _ => rfl)) rfl (by first | omega | (simp <;> omega)) fun v28 => ?_)
        refine RG.pv rfl (PV.asg (v := v28) rfl rfl) ?_
        refine RG.nil ?_
        refine WP.region ?_
        refine RG.pv rfl (PV.mvI (.inl rfl) rfl) ?_
        refine RG.pv rfl (PV.add rfl rfl rfl (by omega)) ?_
        refine RG.pv rfl (PV.mvI (.inr rfl) rfl) ?_
        refine RG.nil ?_
        refine ⟨rfl, i + 1, (ys ++ [moveR t (gd xs i)]), v28, ⟨by omega, by rw [hys, List.take_add_one, getG (by omega)]; simp, fun j hj => ?_⟩, ⟨rfl, rfl, trivial⟩, ⟨rfl, rfl, trivial⟩, ((Cv.eqS (ys := ys ++ [moveR t (gd xs i)]) rfl).trans Cv.p), by omega⟩
        by_cases c : j = ys.length
        · subst c; simpa [gd] using h4
        · have := hva j (by simp at hj; omega)
          simpa [gd, List.getElem?_append_left (show j < ys.length by simp at hj; omega)] using this
  · have h2 := of_decide_eq_false h2
    have e1 : movedOk t xs = true := by
      rw [movedOk, List.all_eq_true]
      intro r hr
      obtain ⟨j, hj, rfl⟩ := List.getElem_of_mem hr
      have := hva j (by omega)
      rw [hys, List.take_of_length_le (by omega), gd_map _ hj, gd_eq hj] at this; exact this
    have e2 : movedR t xs = canon (bits ys) := by rw [movedR, e1, hys, List.take_of_length_le (by omega)]; rfl
    rw [e1, e2] at k
    refine WP.exit ?_
    refine WP.seq ?_
    refine WP.region ?_
    refine RG.pv rfl (PV.move (v := u) rfl rfl) ?_
    refine RG.callF (vs := [u]) rfl rfl En134 rfl (l03Bits_s Rs.o (fun i hi => hva i hi) (fun v30 => ?_))
    refine RG.callF (vs := [v30]) rfl rfl En133 rfl (l03Canon_s Rs.o (bits_length _) (fun v31 => ?_))
    refine RG.pv rfl (PV.asg (v := v31) rfl rfl) ?_
    refine RG.pv rfl (PV.mvB (.inr rfl) rfl) ?_
    refine RG.nil ?_
    refine WP.ret ?_
    exact ⟨_, _, ResV.two rfl rfl rfl, Cv.p, k v31⟩
theorem imgs_take {xs : List Rect} {o : Int} {i : Nat} (h : i < xs.length) : (xs.take (i + 1)).map (moveR ⟨o, 0, 0⟩) = (xs.take i).map (moveR ⟨o, 0, 0⟩) ++ [moveR ⟨o, 0, 0⟩ (gd xs i)] := by
  rw [List.take_add_one, getG h]; simp
theorem shifted_valid {im : List Rect} (h0 : 0 < im.length) (h : ∀ r ∈ im, RIn 40 r) : movedR ⟨0, -40 - (boxL im).x0, -40 - (boxL im).y0⟩ im = canon (bits (shifted im)) ∧ movedOk ⟨0, -40 - (boxL im).x0, -40 - (boxL im).y0⟩ im = true := by
  have e : ∀ r ∈ im, moveR ⟨0, -40 - (boxL im).x0, -40 - (boxL im).y0⟩ r = shiftR (-40 - (boxL im).x0) (-40 - (boxL im).y0) r := fun r hr => moveR_shift (by have := h r hr; simp only [RIn] at this; omega)
  have e2 : movedOk ⟨0, -40 - (boxL im).x0, -40 - (boxL im).y0⟩ im = true := by
    rw [movedOk, List.all_eq_true]
    intro r hr
    rw [e r hr]; exact RIn_valid.2 (shifted_in h0 h r hr)
  refine ⟨?_, e2⟩
  rw [movedR, e2]
  simp only [cond_true, shifted]
  rw [List.map_congr_left e]
theorem canon_bd {bs : List Bool} {i : Nat} (h : i < (canon bs).length) : -40 ≤ (gd (canon bs) i).x0 ∧ (gd (canon bs) i).x0 ≤ 40 ∧ -40 ≤ (gd (canon bs) i).y0 ∧ (gd (canon bs) i).y0 ≤ 40 ∧ -40 ≤ (gd (canon bs) i).x1 ∧ (gd (canon bs) i).x1 ≤ 40 ∧ -40 ≤ (gd (canon bs) i).y1 ∧ (gd (canon bs) i).y1 ≤ 40 := by
  have := canonFrom_mem bs 0 (gd (canon bs) i) (by rw [gd_eq h]; exact List.getElem_mem _)
  omega
theorem l22Turned_s {o : Int} {v : Value} {xs : List Rect} (h1 : Rs G L rectT v xs) (hne : 0 < xs.length) (hb2 : xs.length ≤ 1048576) (hr : ∀ r ∈ xs, RIn 40 r) (ho : 0 ≤ o ∧ o ≤ 7) (k : R (vi (sigO xs o)) G L) : CallT Tryz.prog 180 #[v, vi o] G L R := by
  refine CallT.enter (args := _) Tryz.func180 rfl rfl (by kernel_rfl) rfl ?_
  refine WP.seq ?_
  refine WP.region ?_
  refine RG.pv rfl (PV.mvI (.inr rfl) rfl) ?_
  refine RG.nil ?_
  refine WP.seq ?_
  refine WP.region ?_
  refine RG.ot rfl (OT.bslice (F := rectT) (els := []) rfl El35 rfl (by decide) rfl (by decide) trivial fun v12 => ?_)
  refine RG.pv rfl (PV.asg (v := v12) rfl rfl) ?_
  refine RG.nil ?_
  refine WP.seq ?_
  refine WP.seq ?_
  refine WP.region ?_
  refine RG.pv rfl (PV.mvI (.inr rfl) rfl) ?_
  refine RG.nil ?_
  refine WP.block ?_
  refine WP.loop3 [0, 1] (fun (i : Nat) (ys : List Rect) (u : Value) => i ≤ xs.length ∧ ys = (xs.take i).map (moveR ⟨o, 0, 0⟩)) (fun (i : Nat) (ys : List Rect) (u : Value) => [(6, vi i), (5, u)]) (fun (i : Nat) (ys : List Rect) (u : Value) => osl 101 rectT u ys :: L) (fun (i : Nat) (ys : List Rect) (u : Value) => xs.length - i) 0 [] v12 ⟨by omega, rfl⟩ ⟨rfl, rfl, trivial⟩ Cv.p ?_
  rintro i ys u τ ⟨hi, hys⟩
  refine WP.seq ?_
  refine WP.seq ?_
  refine WP.region ?_
  refine RG.pv rfl (PV.mvI (.inl rfl) rfl) ?_
  refine RG.pv rfl (PV.move (v := v) rfl rfl) ?_
  refine RG.pv rfl (PV.len (v := v) rfl Tryz.underlying35 rfl (SlF.r h1)) ?_
  refine RG.pv rfl (PV.lss rfl rfl rfl) ?_
  refine RG.nil ?_
  have hyl : ys.length = i := by rw [hys]; simp; omega
  refine WP.cond rfl (fun h2 => ?_) (fun h2 => ?_)
  · have h2 := of_decide_eq_true h2
    refine WP.skip ?_
    refine WP.seq ?_
    refine WP.block ?_
    refine WP.region ?_
    refine RG.pv rfl (PV.move (v := u) rfl rfl) ?_
    refine RG.pv rfl (PV.mvI (.inl rfl) rfl) ?_
    refine RG.pv rfl (PV.build (vs := [(0, [vi _])]) (out := [_, _, _]) rfl Zr190 Pl190 ⟨rfl, (Cl.c rfl), trivial⟩ rfl) ?_
    refine RG.pv rfl (PV.move (v := v) rfl rfl) ?_
    refine RG.pv rfl (PV.mvI (.inl rfl) rfl) ?_
    refine RG.pv rfl (PV.idxS (v := v) rfl Is35 rfl (SlF.r h1) rfl rfl (by omega)) ?_
    refine RG.pv rfl (PV.loadE rfl Ag101 rfl rfl (El.r h1 (getG (by omega)))) ?_
    refine RG.callF (vs := [_, _]) rfl rfl En220 rfl (moveRect_r (t := ⟨_, _, _⟩) ho (by simp) (RIn_gd hr (by omega)) ?_)
    refine RG.ot rfl (OT.bslice (F := rectT) (els := [_]) rfl El35 rfl (by decide) rfl (by decide) ⟨rfl, (Cl.c rfl), trivial⟩ fun v27 => ?_)
    refine RG.ot rfl (OT.append (v := u) (u := v27) (F := rectT) rfl El35 rfl (by decide) rfl rfl Rs.o (OneL.c (fun _ => rfl)) rfl (by first | omega | (simp <;> omega)) fun v28 => ?_)
    refine RG.pv rfl (PV.asg (v := v28) rfl rfl) ?_
    refine RG.nil ?_
    refine WP.region ?_
    refine RG.pv rfl (PV.mvI (.inl rfl) rfl) ?_
    refine RG.pv rfl (PV.add rfl rfl rfl (by omega)) ?_
    refine RG.pv rfl (PV.mvI (.inr rfl) rfl) ?_
    refine RG.nil ?_
    exact ⟨rfl, i + 1, (ys ++ [moveR ⟨o, 0, 0⟩ (gd xs i)]), v28, ⟨by omega, by rw [hys, imgs_take (by omega)]⟩, ⟨rfl, rfl, trivial⟩, ⟨rfl, rfl, trivial⟩, Cv.p, by omega⟩
  · have h2 := of_decide_eq_false h2
    have e : ys = imgs xs o := by rw [hys, List.take_of_length_le (by omega)]; rfl
    subst e
    have h0 : 0 < (imgs xs o).length := by omega
    have hri := imgs_in ho hr
    have hbx := boxL_in h0 hri
    obtain ⟨hm1, hm2⟩ := shifted_valid h0 hri
    have hbx2 := hbx
    simp only [RIn] at hbx2
    refine WP.exit ?_
    refine WP.seq ?_
    refine WP.region ?_
    refine RG.pv rfl (PV.move (v := u) rfl rfl) ?_
    refine RG.callF (vs := [u]) rfl rfl En221 rfl (l02Box_s Rs.o h0 ?_)
    refine RG.ot rfl (OT.alloc rfl Zr101 fun b7 => ?_)
    refine RG.ot rfl (OT.storeW (vs := [vi _, vi _, vi _, vi _]) rfl Sz101 rfl rfl (Cl.c rfl) rfl rfl (OneC.c rfl) ?_)
    refine RG.nil ?_
    refine WP.seq ?_
    refine WP.region ?_
    refine RG.pv rfl (PV.field rfl Fo101_0 rfl) ?_
    refine RG.pv rfl (PV.load1 rfl Sc2 rfl (Rd.blk rfl)) ?_
    refine RG.pv rfl (PV.sub rfl rfl rfl (by omega)) ?_
    refine RG.pv rfl (PV.field rfl Fo101_1 rfl) ?_
    refine RG.pv rfl (PV.load1 rfl Sc2 rfl (Rd.blk rfl)) ?_
    refine RG.pv rfl (PV.sub rfl rfl rfl (by omega)) ?_
    refine RG.pv rfl (PV.build (vs := [(1, [vi _]), (2, [vi _])]) (out := [_, _, _]) rfl Zr190 Pl190 ⟨rfl, (Cl.c rfl), ⟨rfl, (Cl.c rfl), trivial⟩⟩ rfl) ?_
    refine RG.pv rfl (PV.move (v := u) rfl rfl) ?_
    refine RG.callF (vs := [_, u]) rfl rfl En222 rfl (l03Moved_s (t := ⟨0, _, _⟩) Rs.o (by omega) (by simp) (by simp only; omega) (fun i hi => RIn_gd hri hi) (fun w40 => ?_))
    refine RG.pv rfl (PV.move (v := .tuple _) rfl rfl) ?_
    refine RG.pv rfl (PV.ext (v := w40) rfl rfl rfl) ?_
    refine RG.pv rfl (PV.ext rfl rfl rfl) ?_
    refine RG.pv rfl (PV.asg (v := w40) rfl rfl) ?_
    refine RG.pv rfl (PV.mvB (.inr rfl) rfl) ?_
    refine RG.nil ?_
    refine WP.seq ?_
    refine WP.region ?_
    refine RG.pv rfl (PV.mvI (.inr rfl) rfl) ?_
    refine RG.nil ?_
    refine WP.seq ?_
    refine WP.seq ?_
    refine WP.region ?_
    refine RG.pv rfl (PV.mvI (.inr rfl) rfl) ?_
    refine RG.nil ?_
    refine WP.block ?_
    rw [hm1, hm2]
    have hcb : ∀ i, i < (canon (bits (shifted (imgs xs o)))).length → _ := fun i hi => canon_bd hi
    have hcl := canon_len (bits (shifted (imgs xs o)))
    have hsg : sigO xs o = hashRs 17 (canon (bits (shifted (imgs xs o)))) := rfl
    generalize canon (bits (shifted (imgs xs o))) = C at *
    refine WP.loop2 [8] (fun (m : Nat) (g : Int) => m ≤ C.length ∧ g = hashRs 17 (C.take m)) (fun (m : Nat) (g : Int) => [(11, vi m), (10, vi g)]) (fun (m : Nat) (g : Int) => osl 101 rectT w40 C :: L) (fun (m : Nat) (g : Int) => C.length - m) 0 17 ⟨by omega, rfl⟩ ⟨rfl, rfl, trivial⟩ Cv.p ?_
    rintro m g τ1 ⟨hm, hg⟩
    refine WP.seq ?_
    refine WP.seq ?_
    refine WP.region ?_
    refine RG.pv rfl (PV.mvI (.inl rfl) rfl) ?_
    refine RG.pv rfl (PV.move (v := w40) rfl rfl) ?_
    refine RG.pv rfl (PV.len (v := w40) rfl Tryz.underlying35 rfl SlF.o) ?_
    refine RG.pv rfl (PV.lss rfl rfl rfl) ?_
    refine RG.nil ?_
    have hgb := hashRs_bd (h := 17) (C.take m) (by omega)
    rw [← hg] at hgb
    refine WP.cond rfl (fun h3 => ?_) (fun h3 => ?_)
    · have h3 := of_decide_eq_true h3
      obtain ⟨q1, q2, q3, q4, q5, q6, q7, q8⟩ := hcb m (by omega)
      refine WP.skip ?_
      refine WP.seq ?_
      refine WP.block ?_
      refine WP.seq ?_
      refine WP.region ?_
      refine RG.pv rfl (PV.mvI (.inl rfl) rfl) ?_
      refine RG.pv rfl (PV.move (v := w40) rfl rfl) ?_
      refine RG.pv rfl (PV.mvI (.inl rfl) rfl) ?_
      refine RG.pv rfl (PV.idxS (v := w40) rfl Is35 rfl SlF.o rfl rfl (by omega)) ?_
      refine RG.pv rfl (PV.field rfl Fo101_0 rfl) ?_
      refine RG.pv rfl (PV.loadF (v := w40) (j := 0) rfl Sc2 rfl rfl (El.o (getG (by omega))) rfl) ?_
      refine RG.pv rfl (PV.add rfl rfl rfl (by omega)) ?_
      refine RG.callF (vs := [_, _]) rfl rfl En124 rfl (l22Hash_s (by first | exact hgb | exact hashI_bd _ _) (by omega) ?_)
      refine RG.pv rfl (PV.mvI (.inr rfl) rfl) ?_
      refine RG.nil ?_
      refine WP.seq ?_
      refine WP.region ?_
      refine RG.pv rfl (PV.mvI (.inl rfl) rfl) ?_
      refine RG.pv rfl (PV.move (v := w40) rfl rfl) ?_
      refine RG.pv rfl (PV.mvI (.inl rfl) rfl) ?_
      refine RG.pv rfl (PV.idxS (v := w40) rfl Is35 rfl SlF.o rfl rfl (by omega)) ?_
      refine RG.pv rfl (PV.field rfl Fo101_1 rfl) ?_
      refine RG.pv rfl (PV.loadF rfl Sc2 rfl rfl (El.o (getG (by omega))) rfl) ?_
      refine RG.pv rfl (PV.add rfl rfl rfl (by omega)) ?_
      refine RG.callF (vs := [_, _]) rfl rfl En124 rfl (l22Hash_s (by first | exact hgb | exact hashI_bd _ _) (by omega) ?_)
      refine RG.pv rfl (PV.mvI (.inr rfl) rfl) ?_
      refine RG.nil ?_
      refine WP.seq ?_
      refine WP.region ?_
      refine RG.pv rfl (PV.mvI (.inl rfl) rfl) ?_
      refine RG.pv rfl (PV.move (v := w40) rfl rfl) ?_
      refine RG.pv rfl (PV.mvI (.inl rfl) rfl) ?_
      refine RG.pv rfl (PV.idxS (v := w40) rfl Is35 rfl SlF.o rfl rfl (by omega)) ?_
      refine RG.pv rfl (PV.field rfl Fo101_2 rfl) ?_
      refine RG.pv rfl (PV.loadF rfl Sc2 rfl rfl (El.o (getG (by omega))) rfl) ?_
      refine RG.pv rfl (PV.add rfl rfl rfl (by omega)) ?_
      refine RG.callF (vs := [_, _]) rfl rfl En124 rfl (l22Hash_s (by first | exact hgb | exact hashI_bd _ _) (by omega) ?_)
      refine RG.pv rfl (PV.mvI (.inr rfl) rfl) ?_
      refine RG.nil ?_
      refine WP.region ?_
      refine RG.pv rfl (PV.mvI (.inl rfl) rfl) ?_
      refine RG.pv rfl (PV.move (v := w40) rfl rfl) ?_
      refine RG.pv rfl (PV.mvI (.inl rfl) rfl) ?_
      refine RG.pv rfl (PV.idxS (v := w40) rfl Is35 rfl SlF.o rfl rfl (by omega)) ?_
      refine RG.pv rfl (PV.field rfl Fo101_3 rfl) ?_
      refine RG.pv rfl (PV.loadF rfl Sc2 rfl rfl (El.o (getG (by omega))) rfl) ?_
      refine RG.pv rfl (PV.add rfl rfl rfl (by omega)) ?_
      refine RG.callF (vs := [_, _]) rfl rfl En124 rfl (l22Hash_s (by first | exact hgb | exact hashI_bd _ _) (by omega) ?_)
      refine RG.pv rfl (PV.mvI (.inr rfl) rfl) ?_
      refine RG.nil ?_
      refine WP.region ?_
      refine RG.pv rfl (PV.mvI (.inl rfl) rfl) ?_
      refine RG.pv rfl (PV.add rfl rfl rfl (by omega)) ?_
      refine RG.pv rfl (PV.mvI (.inr rfl) rfl) ?_
      refine RG.nil ?_
      exact ⟨rfl, m + 1, _, ⟨by omega, by rw [hashRs_take (by omega), ← hg]; rfl⟩, ⟨rfl, rfl, trivial⟩, ⟨rfl, trivial⟩, Cv.p, by omega⟩
    · have h3 := of_decide_eq_false h3
      have e : sigO xs o = g := by rw [hsg, hg, List.take_of_length_le (by omega)]
      rw [e] at k
      refine WP.exit ?_
      refine WP.seq ?_
      refine WP.region ?_
      refine RG.pv rfl (PV.mvI (.inl rfl) rfl) ?_
      refine RG.pv rfl (PV.mvI (.inr rfl) rfl) ?_
      refine RG.nil ?_
      refine WP.ret ?_
      exact ⟨_, _, ResV.one rfl rfl, Cv.p, k⟩
def regSig (xs : List Rect) : Int := bif isReg xs && decide (0 < xs.length) then sigTo xs 7 else -1
theorem regSig_s {v : Value} {xs : List Rect} (h1 : Rs G L rectT v xs) (k : R (vi (regSig xs)) G L) : CallT Tryz.prog 123 #[v] G L R := by
  refine CallT.bd h1 fun hb => ?_
  refine CallT.enter (args := _) Tryz.func123 rfl rfl (by kernel_rfl) rfl ?_
  refine WP.seq ?_
  refine WP.region ?_
  refine RG.pv rfl (PV.mvI (.inr rfl) rfl) ?_
  refine RG.nil ?_
  refine WP.seq ?_
  refine WP.seq ?_
  refine WP.region ?_
  refine RG.pv rfl (PV.move (v := v) rfl rfl) ?_
  refine RG.callF (vs := [v]) rfl rfl En68 rfl (l03Ok_s (Rs.up h1) ?_)
  refine RG.pv rfl (PV.not rfl rfl) ?_
  refine RG.pv rfl (PV.mvB (.inl rfl) rfl) ?_
  refine RG.gs rfl rfl rfl (fun hp => (PV.move (v := v) rfl rfl)) ?_
  refine RG.gs rfl rfl rfl (fun hp => (PV.len (v := v) rfl Tryz.underlying35 (gs_t hp) (SlF.r h1))) ?_
  refine RG.gs rfl rfl rfl (fun hp => (PV.eql rfl (gs_t hp) rfl)) ?_
  refine RG.pv rfl (PV.pickO rfl rfl rfl (fun hq => gs_t (geqF hq))) ?_
  refine RG.nil ?_
  refine WP.cond rfl (fun h2 => ?_) (fun h2 => ?_)
  · have e : regSig xs = -1 := by
      cases h4 : isReg xs
      · simp [regSig, h4]
      · simp [h4] at h2; simp [regSig, h4, h2]
    rw [e] at k
    refine WP.seq ?_
    refine WP.region ?_
    refine RG.pv rfl (PV.mvI (.inr rfl) rfl) ?_
    refine RG.nil ?_
    refine WP.ret ?_
    exact ⟨_, _, ResV.one rfl rfl, Cv.p, k⟩
  · have hreg : isReg xs = true := by cases h4 : isReg xs <;> simp_all
    have hne : 0 < xs.length := by
      rcases Nat.eq_zero_or_pos xs.length with h | h
      · simp [hreg, h] at h2
      · exact h
    have hl := isReg_len hreg
    have e : regSig xs = sigTo xs 7 := by simp [regSig, hreg, hne]
    rw [e] at k
    refine WP.skip ?_
    refine WP.seq ?_
    refine WP.region ?_
    refine RG.pv rfl (PV.move (v := v) rfl rfl) ?_
    refine RG.callF (vs := [v, _]) rfl rfl En180 rfl (l22Turned_s (Rs.up h1) hne (by omega) (RIn_all hreg) (by omega) ?_)
    refine RG.pv rfl (PV.mvI (.inr rfl) rfl) ?_
    refine RG.nil ?_
    refine WP.seq ?_
    refine WP.seq ?_
    refine WP.region ?_
    refine RG.pv rfl (PV.mvI (.inr rfl) rfl) ?_
    refine RG.nil ?_
    refine WP.block ?_
    refine WP.loop2 [0] (fun (o : Nat) (m : Int) => 1 ≤ o ∧ o ≤ 8 ∧ m = sigTo xs (o - 1)) (fun (o : Nat) (m : Int) => [(4, vi o), (3, vi m)]) (fun (o : Nat) (m : Int) => L) (fun (o : Nat) (m : Int) => 8 - o) 1 (sigO xs 0) ⟨by omega, by omega, rfl⟩ ⟨rfl, rfl, trivial⟩ Cv.p ?_
    rintro o m τ ⟨ho0, ho7, hm⟩
    refine WP.seq ?_
    refine WP.seq ?_
    refine WP.region ?_
    refine RG.pv rfl (PV.mvI (.inl rfl) rfl) ?_
    refine RG.pv rfl (PV.lss rfl rfl rfl) ?_
    refine RG.nil ?_
    refine WP.cond rfl (fun h3 => ?_) (fun h3 => ?_)
    · have h3 := of_decide_eq_true h3
      refine WP.skip ?_
      refine WP.seq ?_
      refine WP.block ?_
      refine WP.region ?_
      refine RG.pv rfl (PV.mvI (.inl rfl) rfl) ?_
      refine RG.pv rfl (PV.move (v := v) rfl rfl) ?_
      refine RG.pv rfl (PV.mvI (.inl rfl) rfl) ?_
      refine RG.callF (vs := [v, _]) rfl rfl En180 rfl (l22Turned_s (Rs.up h1) hne (by omega) (RIn_all hreg) (by omega) ?_)
      refine RG.pv rfl (PV.min2 rfl rfl rfl) ?_
      refine RG.pv rfl (PV.mvI (.inr rfl) rfl) ?_
      refine RG.nil ?_
      refine WP.region ?_
      refine RG.pv rfl (PV.mvI (.inl rfl) rfl) ?_
      refine RG.pv rfl (PV.add rfl rfl rfl (by omega)) ?_
      refine RG.pv rfl (PV.mvI (.inr rfl) rfl) ?_
      refine RG.nil ?_
      refine ⟨rfl, o + 1, _, ⟨by omega, by omega, ?_⟩, ⟨rfl, rfl, trivial⟩, ⟨rfl, trivial⟩, Cv.p, by omega⟩
      rw [show o + 1 - 1 = (o - 1) + 1 by omega, sigTo, hm, show ((o - 1 : Nat) : Int) + 1 = (o : Int) by omega]
    · have h3 := of_decide_eq_false h3
      have e : sigTo xs 7 = m := by rw [hm, show o - 1 = 7 by omega]
      rw [e] at k
      refine WP.exit ?_
      refine WP.seq ?_
      refine WP.region ?_
      refine RG.pv rfl (PV.mvI (.inl rfl) rfl) ?_
      refine RG.pv rfl (PV.mvI (.inr rfl) rfl) ?_
      refine RG.nil ?_
      refine WP.ret ?_
      exact ⟨_, _, ResV.one rfl rfl, Cv.p, k⟩
theorem four_bd {a b c d : Int} (ha : 0 ≤ a ∧ a ≤ 4294967296) (hb : 0 ≤ b ∧ b ≤ 4294967296) (hc : 0 ≤ c ∧ c ≤ 4294967296) (hd : 0 ≤ d ∧ d ≤ 4294967296) : ∀ i, i < [a, b, c, d].length → 0 ≤ gd [a, b, c, d] i ∧ gd [a, b, c, d] i ≤ 4294967296 := by
  intro i hi
  match i, hi with
  | 0, _ => simpa [gd] using ha
  | 1, _ => simpa [gd] using hb
  | 2, _ => simpa [gd] using hc
  | 3, _ => simpa [gd] using hd
theorem signature_s {v : Value} {xs : List Rect} (h1 : Rs G L rectT v xs) (hne : 0 < xs.length) (hb2 : xs.length ≤ 1048576) (hr : ∀ r ∈ xs, RIn 40 r) (k : R (vi (sigTo xs 7)) G L) : CallT Tryz.prog 129 #[v] G L R := by
  refine CallT.enter (args := _) Tryz.func129 rfl rfl (by kernel_rfl) rfl ?_
  refine WP.seq ?_
  refine WP.region ?_
  refine RG.pv rfl (PV.mvI (.inr rfl) rfl) ?_
  refine RG.nil ?_
  refine WP.seq ?_
  refine WP.region ?_
  refine RG.pv rfl (PV.mvI (.inr rfl) rfl) ?_
  refine RG.nil ?_
  refine WP.seq ?_
  refine WP.seq ?_
  refine WP.region ?_
  refine RG.pv rfl (PV.mvI (.inl rfl) rfl) ?_
  refine RG.nil ?_
  refine WP.block ?_
  refine WP.loop2 [0] (fun (o : Nat) (m : Int) => o ≤ 8 ∧ m = (if o = 0 then -1 else sigTo xs (o - 1))) (fun (o : Nat) (m : Int) => [(17, vi o), (3, vi m)]) (fun (o : Nat) (m : Int) => L) (fun (o : Nat) (m : Int) => 8 - o) 0 (-1) ⟨by omega, rfl⟩ ⟨rfl, rfl, trivial⟩ Cv.p ?_
  rintro o m τ ⟨ho7, hm⟩
  refine WP.seq ?_
  refine WP.region ?_
  refine RG.pv rfl (PV.lss rfl rfl rfl) ?_
  refine RG.nil ?_
  refine WP.seq ?_
  refine WP.cond rfl (fun h2 => ?_) (fun h2 => ?_)
  · have h2 := of_decide_eq_true h2
    have ho2 : 0 ≤ (o : Int) ∧ (o : Int) ≤ 7 := ⟨by omega, by omega⟩
    refine WP.skip ?_
    refine WP.seq ?_
    refine WP.block ?_
    refine WP.seq ?_
    refine WP.region ?_
    refine RG.pv rfl (PV.mvI (.inl rfl) rfl) ?_
    refine RG.pv rfl (PV.mvI (.inr rfl) rfl) ?_
    refine RG.nil ?_
    refine WP.seq ?_
    refine WP.region ?_
    refine RG.ot rfl (OT.bslice (F := rectT) (els := []) rfl El35 rfl (by decide) rfl (by decide) trivial fun v20 => ?_)
    refine RG.pv rfl (PV.asg (v := v20) rfl rfl) ?_
    refine RG.nil ?_
    refine WP.seq ?_
    refine WP.seq ?_
    refine WP.region ?_
    refine RG.pv rfl (PV.move (v := v) rfl rfl) ?_
    refine RG.pv rfl (PV.len (v := v) rfl Tryz.underlying35 rfl (SlF.r h1)) ?_
    refine RG.pv rfl (PV.mvI (.inl rfl) rfl) ?_
    refine RG.nil ?_
    refine WP.block ?_
    refine WP.loop3 [0, 3, 4, 17, 21, 22] (fun (i : Nat) (ys : List Rect) (u : Value) => i ≤ xs.length ∧ ys = (xs.take i).map (moveR ⟨o, 0, 0⟩)) (fun (i : Nat) (ys : List Rect) (u : Value) => [(23, vi i), (5, u)]) (fun (i : Nat) (ys : List Rect) (u : Value) => osl 101 rectT u ys :: L) (fun (i : Nat) (ys : List Rect) (u : Value) => xs.length - i) 0 [] v20 ⟨by omega, rfl⟩ ⟨rfl, rfl, trivial⟩ Cv.p ?_
    rintro i ys u τ1 ⟨hi, hys⟩
    refine WP.seq ?_
    refine WP.region ?_
    refine RG.pv rfl (PV.lss rfl rfl rfl) ?_
    refine RG.nil ?_
    refine WP.seq ?_
    have hyl : ys.length = i := by rw [hys]; simp; omega
    refine WP.cond rfl (fun h3 => ?_) (fun h3 => ?_)
    · have h3 := of_decide_eq_true h3
      refine WP.skip ?_
      refine WP.seq ?_
      refine WP.block ?_
      refine WP.seq ?_
      refine WP.region ?_
      refine RG.pv rfl (PV.idxS (v := v) rfl Is35 rfl (SlF.r h1) rfl rfl (by omega)) ?_
      refine RG.pv rfl (PV.loadE rfl Ag101 rfl rfl (El.r h1 (getG (by omega)))) ?_
      refine RG.ot rfl (OT.alloc rfl Zr101 fun b7 => ?_)
      refine RG.ot rfl (OT.storeW (vs := [vi _, vi _, vi _, vi _]) rfl Sz101 rfl rfl (Cl.c rfl) rfl rfl (OneC.c rfl) ?_)
      refine RG.nil ?_
      refine WP.region ?_
      refine RG.pv rfl (PV.move (v := u) rfl rfl) ?_
      refine RG.pv rfl (PV.mvI (.inl rfl) rfl) ?_
      refine RG.pv rfl (PV.build (vs := [(0, [vi _])]) (out := [_, _, _]) rfl Zr190 Pl190 ⟨rfl, (Cl.c rfl), trivial⟩ rfl) ?_
      refine RG.pv rfl (PV.loadW rfl Ag101 rfl rfl) ?_
      refine RG.callF (vs := [_, _]) rfl rfl En183 rfl (moveRect_s (t := ⟨_, _, _⟩) ho2 (by simp) (RIn_gd hr (by omega)) ?_)
      refine RG.ot rfl (OT.bslice (F := rectT) (els := [_]) rfl El35 rfl (by decide) rfl (by decide) ⟨rfl, (Cl.c rfl), trivial⟩ fun v32 => ?_)
      refine RG.ot rfl (OT.append (v := u) (u := v32) (F := rectT) rfl El35 rfl (by decide) rfl rfl Rs.o (OneL.c (fun _ => rfl)) rfl (by first | omega | (simp <;> omega)) fun v33 => ?_)
      refine RG.pv rfl (PV.asg (v := v33) rfl rfl) ?_
      refine RG.nil ?_
      refine WP.region ?_
      refine RG.pv rfl (PV.add rfl rfl rfl (by omega)) ?_
      refine RG.pv rfl (PV.mvI (.inl rfl) rfl) ?_
      refine RG.nil ?_
      exact ⟨rfl, i + 1, (ys ++ [moveR ⟨o, 0, 0⟩ (gd xs i)]), v33, ⟨by omega, by rw [hys, imgs_take (by omega)]⟩, ⟨rfl, rfl, trivial⟩, ⟨rfl, rfl, rfl, rfl, rfl, rfl, trivial⟩, Cv.p, by omega⟩
    · have h3 := of_decide_eq_false h3
      have e : ys = imgs xs o := by rw [hys, List.take_of_length_le (by omega)]; rfl
      subst e
      have h0 : 0 < (imgs xs o).length := by omega
      have hri := imgs_in (o := (o : Int)) ⟨by omega, by omega⟩ hr
      have hbx := boxL_in h0 hri
      simp only [RIn] at hbx
      have hbx2 : ∀ i, i < (imgs xs o).length → RIn 40 (gd (imgs xs o) i) := fun i hi => RIn_gd hri hi
      refine WP.exit ?_
      refine WP.seq ?_
      refine WP.region ?_
      refine RG.pv rfl (PV.move (v := u) rfl rfl) ?_
      refine RG.callF (vs := [u]) rfl rfl En184 rfl (boxOf_s Rs.o h0 ?_)
      refine RG.pv rfl (PV.build0 rfl Tryz.underlying174 ⟨80, by kernel_rfl⟩ (zeroB_spec (n := 6400) (by kernel_rfl))) ?_
      refine RG.ot rfl (OT.boxG rfl rfl fun b38 => ?_)
      refine RG.ot rfl (OT.alloc rfl Zr101 fun b8 => ?_)
      refine RG.ot rfl (OT.storeW (vs := [vi _, vi _, vi _, vi _]) rfl Sz101 rfl rfl (Cl.c rfl) rfl rfl (OneC.c rfl) ?_)
      refine RG.pv rfl (PV.mvP (.inr rfl) rfl) ?_
      refine RG.nil ?_
      refine WP.seq ?_
      refine WP.regionQ (by kernel_rfl) (by kernel_rfl) ?_
      refine RQ.pv rfl (PV.field rfl Fo101_0 rfl) ?_
      refine RQ.pv rfl (PV.load1 rfl Sc2 rfl (Rd.blk rfl)) ?_
      refine RQ.pv rfl (PV.sub rfl rfl rfl (by omega)) ?_
      refine RQ.pv rfl (PV.field rfl Fo101_1 rfl) ?_
      refine RQ.pv rfl (PV.load1 rfl Sc2 rfl (Rd.blk rfl)) ?_
      refine RQ.pv rfl (PV.sub rfl rfl rfl (by omega)) ?_
      refine RQ.pv rfl (PV.mvI (.inr rfl) rfl) ?_
      refine RQ.pv rfl (PV.mvI (.inr rfl) rfl) ?_
      refine RQ.nil ?_
      refine WP.seq ?_
      refine WP.seq ?_
      refine WP.region ?_
      refine RG.pv rfl (PV.move (v := u) rfl rfl) ?_
      refine RG.pv rfl (PV.len (v := u) rfl Tryz.underlying35 rfl SlF.o) ?_
      refine RG.pv rfl (PV.mvI (.inl rfl) rfl) ?_
      refine RG.nil ?_
      refine WP.block ?_
      refine WP.loop2 [0, 3, 9, 10, 11, 17, 45, 46] (fun (i : Nat) (cs : List Bool) => i ≤ (imgs xs o).length ∧ cs.length = 6400 ∧ ∀ y x, y < 80 → x < 80 → gb cs y x = ((shifted (imgs xs o)).take i).any fun r => inR r y x) (fun (i : Nat) (cs : List Bool) => [(47, vi i)]) (fun (i : Nat) (cs : List Bool) => grd b38 cs :: osl 101 rectT u (imgs xs o) :: L) (fun (i : Nat) (cs : List Bool) => (imgs xs o).length - i) 0 (List.replicate 6400 false) ⟨by omega, by simp, fun y x _ _ => by rw [gb_rep]; simp⟩ ⟨rfl, trivial⟩ Cv.p ?_
      rintro i cs τ2 ⟨hi2, hlc, hc⟩
      refine WP.seq ?_
      refine WP.region ?_
      refine RG.pv rfl (PV.lss rfl rfl rfl) ?_
      refine RG.nil ?_
      refine WP.seq ?_
      refine WP.cond rfl (fun h4 => ?_) (fun h4 => ?_)
      · have h4 := of_decide_eq_true h4
        have hri2 := hbx2 i (by omega)
        simp only [RIn] at hri2
        refine WP.skip ?_
        refine WP.seq ?_
        refine WP.block ?_
        refine WP.seq ?_
        refine WP.region ?_
        refine RG.pv rfl (PV.idxS (v := u) rfl Is35 rfl SlF.o rfl rfl (by omega)) ?_
        refine RG.pv rfl (PV.loadE rfl Ag101 rfl rfl (El.o (getG (by omega)))) ?_
        refine RG.ot rfl (OT.alloc rfl Zr101 fun b13 => ?_)
        refine RG.ot rfl (OT.storeW (vs := [vi _, vi _, vi _, vi _]) rfl Sz101 rfl rfl (Cl.c rfl) rfl rfl (OneC.c rfl) ?_)
        refine RG.nil ?_
        refine WP.region ?_
        refine RG.pv rfl (PV.mvP (.inl rfl) rfl) ?_
        refine RG.pv rfl (PV.field rfl Fo101_0 rfl) ?_
        refine RG.pv rfl (PV.load1 rfl Sc2 rfl (Rd.blk rfl)) ?_
        refine RG.pv rfl (PV.mvI (.inl rfl) rfl) ?_
        refine RG.pv rfl (PV.add rfl rfl rfl (by omega)) ?_
        refine RG.pv rfl (PV.field rfl Fo101_1 rfl) ?_
        refine RG.pv rfl (PV.load1 rfl Sc2 rfl (Rd.blk rfl)) ?_
        refine RG.pv rfl (PV.mvI (.inl rfl) rfl) ?_
        refine RG.pv rfl (PV.add rfl rfl rfl (by omega)) ?_
        refine RG.pv rfl (PV.field rfl Fo101_2 rfl) ?_
        refine RG.pv rfl (PV.load1 rfl Sc2 rfl (Rd.blk rfl)) ?_
        refine RG.pv rfl (PV.mvI (.inl rfl) rfl) ?_
        refine RG.pv rfl (PV.add rfl rfl rfl (by omega)) ?_
        refine RG.pv rfl (PV.field rfl Fo101_3 rfl) ?_
        refine RG.pv rfl (PV.load1 rfl Sc2 rfl (Rd.blk rfl)) ?_
        refine RG.pv rfl (PV.mvI (.inl rfl) rfl) ?_
        refine RG.pv rfl (PV.add rfl rfl rfl (by omega)) ?_
        refine RG.pv rfl (PV.build (vs := [(0, [vi _]), (1, [vi _]), (2, [vi _]), (3, [vi _])]) (out := [_, _, _, _]) rfl Zr101 Pl101 ⟨rfl, (Cl.c rfl), ⟨rfl, (Cl.c rfl), ⟨rfl, (Cl.c rfl), ⟨rfl, (Cl.c rfl), trivial⟩⟩⟩⟩ rfl) ?_
        refine RG.callF (vs := [(.pointer (some ⟨b38, 0, none⟩)), _]) rfl rfl En185 rfl (CallT.exB (put_s (r := ⟨_, _, _, _⟩) (by assumption) (fun bs' hb' hg' => ?_)))
        refine RG.nil ?_
        refine WP.region ?_
        refine RG.pv rfl (PV.add rfl rfl rfl (by omega)) ?_
        refine RG.pv rfl (PV.mvI (.inl rfl) rfl) ?_
        refine RG.nil ?_
        refine ⟨rfl, i + 1, bs', ⟨by omega, hb', fun y x h5 h6 => ?_⟩, ⟨rfl, trivial⟩, ⟨rfl, rfl, rfl, rfl, rfl, rfl, rfl, rfl, trivial⟩, Cv.p, by omega⟩
        rw [hg' y x h5 h6, hc y x h5 h6, List.take_add_one, getG (by simp [shifted]; omega), shifted, gd_map _ (by omega), List.any_append]
        simp only [Option.toList_some, List.any_cons, List.any_nil, Bool.or_false]
      · have h4 := of_decide_eq_false h4
        have e : cs = bits (shifted (imgs xs o)) := bits_eq hlc fun y x h5 h6 => by rw [hc y x h5 h6, List.take_of_length_le (by simp [shifted]; omega)]
        subst e
        have hcb : ∀ i, i < (canon (bits (shifted (imgs xs o)))).length → _ := fun i hi => canon_bd hi
        have hcl := canon_len (bits (shifted (imgs xs o)))
        have hsg : sigO xs o = hashRs 17 (canon (bits (shifted (imgs xs o)))) := rfl
        refine WP.exit ?_
        refine WP.seq ?_
        refine WP.region ?_
        refine RG.pv rfl (PV.mvI (.inr rfl) rfl) ?_
        refine RG.nil ?_
        refine WP.seq ?_
        refine WP.seq ?_
        refine WP.region ?_
        refine RG.pv rfl (PV.mvP (.inl rfl) rfl) ?_
        refine RG.callF (vs := [(.pointer (some ⟨b38, 0, none⟩))]) rfl rfl En139 rfl (CallT.exB (region_s (bits_length _) (fun v72 => ?_)))
        refine RG.pv rfl (PV.len (v := v72) rfl Tryz.underlying35 rfl SlF.o) ?_
        refine RG.pv rfl (PV.mvI (.inl rfl) rfl) ?_
        refine RG.nil ?_
        refine WP.block ?_
        generalize canon (bits (shifted (imgs xs o))) = C at *
        refine WP.loop2 [0, 3, 17, 72, 73] (fun (j : Nat) (g : Int) => j ≤ C.length ∧ g = hashRs 17 (C.take j)) (fun (j : Nat) (g : Int) => [(74, vi j), (14, vi g)]) (fun (j : Nat) (g : Int) => osl 101 rectT v72 C :: L) (fun (j : Nat) (g : Int) => C.length - j) 0 17 ⟨by omega, rfl⟩ ⟨rfl, rfl, trivial⟩ Cv.p ?_
        rintro j g τ3 ⟨hj, hg⟩
        refine WP.seq ?_
        refine WP.region ?_
        refine RG.pv rfl (PV.lss rfl rfl rfl) ?_
        refine RG.nil ?_
        refine WP.seq ?_
        have hgb := hashRs_bd (h := 17) (C.take j) (by omega)
        rw [← hg] at hgb
        refine WP.cond rfl (fun h5 => ?_) (fun h5 => ?_)
        · have h5 := of_decide_eq_true h5
          obtain ⟨q1, q2, q3, q4, q5, q6, q7, q8⟩ := hcb j (by omega)
          refine WP.skip ?_
          refine WP.seq ?_
          refine WP.block ?_
          refine WP.seq ?_
          refine WP.region ?_
          refine RG.pv rfl (PV.idxS (v := v72) rfl Is35 rfl SlF.o rfl rfl (by omega)) ?_
          refine RG.pv rfl (PV.loadE rfl Ag101 rfl rfl (El.o (getG (by omega)))) ?_
          refine RG.ot rfl (OT.alloc rfl Zr101 fun b16 => ?_)
          refine RG.ot rfl (OT.storeW (vs := [vi _, vi _, vi _, vi _]) rfl Sz101 rfl rfl (Cl.c rfl) rfl rfl (OneC.c rfl) ?_)
          refine RG.nil ?_
          refine WP.region ?_
          refine RG.pv rfl (PV.mvI (.inl rfl) rfl) ?_
          refine RG.pv rfl (PV.field rfl Fo101_0 rfl) ?_
          refine RG.pv rfl (PV.load1 rfl Sc2 rfl (Rd.blk rfl)) ?_
          refine RG.pv rfl (PV.add rfl rfl rfl (by omega)) ?_
          refine RG.pv rfl (PV.field rfl Fo101_1 rfl) ?_
          refine RG.pv rfl (PV.load1 rfl Sc2 rfl (Rd.blk rfl)) ?_
          refine RG.pv rfl (PV.add rfl rfl rfl (by omega)) ?_
          refine RG.pv rfl (PV.field rfl Fo101_2 rfl) ?_
          refine RG.pv rfl (PV.load1 rfl Sc2 rfl (Rd.blk rfl)) ?_
          refine RG.pv rfl (PV.add rfl rfl rfl (by omega)) ?_
          refine RG.pv rfl (PV.field rfl Fo101_3 rfl) ?_
          refine RG.pv rfl (PV.load1 rfl Sc2 rfl (Rd.blk rfl)) ?_
          refine RG.pv rfl (PV.add rfl rfl rfl (by omega)) ?_
          refine RG.ot rfl (OT.bslice (F := intT) (els := [_, _, _, _]) rfl El134 rfl (by decide) rfl (by decide) ⟨rfl, (Cl.c rfl), ⟨rfl, (Cl.c rfl), ⟨rfl, (Cl.c rfl), ⟨rfl, (Cl.c rfl), trivial⟩⟩⟩⟩ fun v91 => ?_)
          refine RG.callF (vs := [_, v91]) rfl rfl En128 rfl (hash_s Rs.o hgb (four_bd (by omega) (by omega) (by omega) (by omega)) ?_)
          refine RG.pv rfl (PV.mvI (.inr rfl) rfl) ?_
          refine RG.nil ?_
          refine WP.region ?_
          refine RG.pv rfl (PV.add rfl rfl rfl (by omega)) ?_
          refine RG.pv rfl (PV.mvI (.inl rfl) rfl) ?_
          refine RG.nil ?_
          exact ⟨rfl, j + 1, _, ⟨by omega, by rw [hashRs_take (by omega), ← hg]; rfl⟩, ⟨rfl, rfl, trivial⟩, ⟨rfl, rfl, rfl, rfl, rfl, trivial⟩, Cv.p, by omega⟩
        · have h5 := of_decide_eq_false h5
          have e : sigO xs o = g := by rw [hsg, hg, List.take_of_length_le (by omega)]
          have hsb := sigTo_bd xs (o - 1)
          refine WP.exit ?_
          refine WP.seq ?_
          refine WP.region ?_
          refine RG.pv rfl (PV.mvI (.inl rfl) rfl) ?_
          refine RG.pv rfl (PV.lss rfl rfl rfl) ?_
          refine RG.pv rfl (PV.mvB (.inl rfl) rfl) ?_
          refine RG.gs rfl rfl rfl (fun hp => (PV.mvI (.inl rfl) rfl)) ?_
          refine RG.gs rfl rfl rfl (fun hp => (PV.mvI (.inl rfl) rfl)) ?_
          refine RG.gs rfl rfl rfl (fun hp => (PV.lss rfl (gs_t hp) (gs_t hp))) ?_
          refine RG.pv rfl (PV.pickO rfl rfl rfl (fun hq => gs_t (geqF hq))) ?_
          refine RG.nil ?_
          refine WP.cond rfl (fun h6 => ?_) (fun h6 => ?_)
          · refine WP.region ?_
            refine RG.pv rfl (PV.mvI (.inl rfl) rfl) ?_
            refine RG.pv rfl (PV.mvI (.inr rfl) rfl) ?_
            refine RG.nil ?_
            refine WP.region ?_
            refine RG.pv rfl (PV.add rfl rfl rfl (by omega)) ?_
            refine RG.pv rfl (PV.mvI (.inl rfl) rfl) ?_
            refine RG.nil ?_
            refine ⟨rfl, o + 1, _, ⟨by omega, ?_⟩, ⟨rfl, rfl, trivial⟩, ⟨rfl, trivial⟩, Cv.p, by omega⟩
            by_cases c : o = 0
            · subst c; simp [sigTo, ← e]
            · rw [if_neg c] at hm
              have e2 : sigTo xs o = min (sigTo xs (o - 1)) (sigO xs o) := by
                rw [show o = (o - 1) + 1 by omega, sigTo, Nat.add_sub_cancel, show ((o - 1 : Nat) : Int) + 1 = ((o - 1 + 1 : Nat) : Int) by omega]
              simp at h6
              rw [if_neg (by omega), Nat.add_sub_cancel, e2, e, ← hm]; omega
          · refine WP.skip ?_
            refine WP.region ?_
            refine RG.pv rfl (PV.add rfl rfl rfl (by omega)) ?_
            refine RG.pv rfl (PV.mvI (.inl rfl) rfl) ?_
            refine RG.nil ?_
            refine ⟨rfl, o + 1, _, ⟨by omega, ?_⟩, ⟨rfl, rfl, trivial⟩, ⟨rfl, trivial⟩, Cv.p, by omega⟩
            by_cases c : o = 0
            · subst c; simp [hm] at h6
            · rw [if_neg c] at hm
              have e2 : sigTo xs o = min (sigTo xs (o - 1)) (sigO xs o) := by
                rw [show o = (o - 1) + 1 by omega, sigTo, Nat.add_sub_cancel, show ((o - 1 : Nat) : Int) + 1 = ((o - 1 + 1 : Nat) : Int) by omega]
              simp at h6
              rw [if_neg (by omega), Nat.add_sub_cancel, e2, e, ← hm]; omega
  · have h2 := of_decide_eq_false h2
    have e : sigTo xs 7 = m := by rw [hm, if_neg (by omega), show o - 1 = 7 by omega]
    rw [e] at k
    refine WP.exit ?_
    refine WP.seq ?_
    refine WP.region ?_
    refine RG.pv rfl (PV.mvI (.inl rfl) rfl) ?_
    refine RG.pv rfl (PV.mvI (.inr rfl) rfl) ?_
    refine RG.nil ?_
    refine WP.ret ?_
    exact ⟨_, _, ResV.one rfl rfl, Cv.p, k⟩
end Go.Proofs.YtgngpegmaceaiaaGreat
namespace Go.Proofs.YtgngpegmaceaiaaGreat
set_option linter.unusedVariables false
set_option linter.unusedSimpArgs false
open Go
set_option maxRecDepth 20000
set_option linter.unusedSimpArgs false
variable {G : Gh} {L : List Ch} {R : Value → Gh → List Ch → Prop}
open Classical in
noncomputable def celL (P : Nat → Nat → Prop) : List Bool := (List.range 6400).map fun k => decide (P (k / 80) (k % 80))
theorem celL_len (P : Nat → Nat → Prop) : (celL P).length = 6400 := by simp [celL]
theorem celL_gb {P : Nat → Nat → Prop} {y x : Nat} (hy : y < 80) (hx : x < 80) : gb (celL P) y x = true ↔ P y x := by
  have h1 : y * 80 + x < 6400 := by omega
  have h2 : (y * 80 + x) / 80 = y := by omega
  have h3 : (y * 80 + x) % 80 = x := by omega
  simp [gb, gd, celL, h1, h2, h3]
theorem celL_eq {P : Nat → Nat → Prop} {D : List Bool} (hD : D.length = 6400) (h : ∀ y x, y < 80 → x < 80 → (gb D y x = true ↔ P y x)) : D = celL P :=
  gb_ext hD (celL_len _) fun y x hy hx => by rw [Bool.eq_iff_iff, h y x hy hx, celL_gb hy hx]
/-- the line of a cell, and its place on it -/
def lnI (ver : Bool) (y x : Nat) : Int := bif ver then (x : Int) - 40 else (y : Int) - 40
def plI (ver : Bool) (y x : Nat) : Int := bif ver then (y : Int) - 40 else (x : Int) - 40
theorem inR_line {ver : Bool} {l lo hi : Int} {y x : Nat} : inR (lineR ver l lo hi) y x = true ↔ l = lnI ver y x ∧ lo ≤ plI ver y x ∧ plI ver y x < hi := by
  rw [inR_iff]
  cases ver <;> simp only [lineR, lnI, plI, cond_true, cond_false] <;> omega
theorem lenR_line {ver : Bool} {l lo hi : Int} : lenR (lineR ver l lo hi) = hi - lo := by
  cases ver
  · simp only [lenR, lineR, cond_false]; rw [show l + 1 - l = 1 by omega, Int.mul_one]
  · simp only [lenR, lineR, cond_true]; rw [show l + 1 - l = 1 by omega, Int.one_mul]
theorem isRun.uniq {S : List Bool} {ver : Bool} {l k lo hi lo' hi' : Int} (h : isRun S ver l k lo hi) (g : isRun S ver l k lo' hi') : lo = lo' ∧ hi = hi' := by
  have a1 := h.lk; have a2 := g.lk
  constructor
  · rcases Int.lt_trichotomy lo lo' with c | c | c
    · have := h.all (lo' - 1) (by omega) (by omega); rw [g.low] at this; cases this
    · exact c
    · have := g.all (lo - 1) (by omega) (by omega); rw [h.low] at this; cases this
  · rcases Int.lt_trichotomy hi hi' with c | c | c
    · have := g.all hi (by omega) (by omega); rw [h.high] at this; cases this
    · exact c
    · have := h.all hi' (by omega) (by omega); rw [g.high] at this; cases this
/-- the cell is on a run shorter than w -/
def Thin (S : List Bool) (w : Int) (y x : Nat) : Prop := ∃ ver lo hi, isRun S ver (lnI ver y x) (plI ver y x) lo hi ∧ hi - lo < w
theorem isRun.at {S : List Bool} {ver : Bool} {l k k' lo hi : Int} (h : isRun S ver l k lo hi) (h1 : lo ≤ k' ∧ k' < hi) : isRun S ver l k' lo hi := ⟨h1, h.rng, h.all, h.low, h.high⟩
theorem markC_iff {S : List Bool} {out : List Rect} (h : RunsA S out) {w : Int} {y x : Nat} : markC out w y x = true ↔ Thin S w y x := by
  simp only [markC, List.any_eq_true, Bool.and_eq_true, decide_eq_true_eq]
  constructor
  · rintro ⟨r, hr, h1, h2⟩
    obtain ⟨ver, l, k, lo, hi, h3, rfl⟩ := h.run r hr
    obtain ⟨rfl, h4⟩ := inR_line.1 h2
    rw [lenR_line] at h1
    exact ⟨ver, lo, hi, h3.at h4, h1⟩
  · rintro ⟨ver, lo, hi, h1, h2⟩
    obtain ⟨lo', hi', h3, h4⟩ := h.all ver _ _ (h1.all _ h1.lk.1 h1.lk.2)
    obtain ⟨rfl, rfl⟩ := h1.uniq h3
    exact ⟨_, h4, by rw [lenR_line]; exact h2, inR_line.2 ⟨rfl, h1.lk⟩⟩
def okDist (w : Int) : Bool := decide (w ≥ 1) && decide (w ≤ 8)
noncomputable def widthL (xs : List Rect) (w : Int) : List Rect := if (isReg xs && okDist w) = true then canon (celL (Thin (bits xs) w)) else []
theorem distance_s {w : Int} (k : R (.bool (okDist w)) G L) : CallT Tryz.prog 167 #[vi w] G L R := by
  refine CallT.enter (args := _) Tryz.func167 rfl rfl (by kernel_rfl) rfl ?_
  refine WP.seq ?_
  refine WP.region ?_
  refine RG.pv rfl (PV.mvB (.inr rfl) rfl) ?_
  refine RG.nil ?_
  refine WP.seq ?_
  refine WP.region ?_
  refine RG.pv rfl (PV.mvI (.inl rfl) rfl) ?_
  refine RG.pv rfl (PV.geq rfl rfl rfl) ?_
  refine RG.pv rfl (PV.mvB (.inl rfl) rfl) ?_
  refine RG.gs rfl rfl rfl (fun hp => (PV.mvI (.inl rfl) rfl)) ?_
  refine RG.gs rfl rfl rfl (fun hp => (PV.leq rfl (gs_t hp) rfl)) ?_
  refine RG.pv rfl (PV.pickA rfl rfl (fun hq => gs_t (geqT hq)) rfl) ?_
  refine RG.pv rfl (PV.mvB (.inr rfl) rfl) ?_
  refine RG.nil ?_
  refine WP.ret ?_
  exact ⟨_, _, ResV.one rfl rfl, Cv.p, k⟩
theorem markWidth_s {v : Value} {xs : List Rect} {w : Int} (h1 : Rs G L rectT v xs) (k : ∀ v', R v' G (osl 101 rectT v' (widthL xs w) :: L)) : CallT Tryz.prog 114 #[v, vi w] G L R := by
  refine CallT.enter (args := _) Tryz.func114 rfl rfl (by kernel_rfl) rfl ?_
  refine WP.seq ?_
  refine WP.region ?_
  refine RG.pv rfl (PV.asg rfl rfl) ?_
  refine RG.nil ?_
  refine WP.seq ?_
  refine WP.seq ?_
  refine WP.region ?_
  refine RG.pv rfl (PV.move (v := v) rfl rfl) ?_
  refine RG.callF (vs := [v]) rfl rfl En68 rfl (l03Ok_s (Rs.up h1) ?_)
  refine RG.pv rfl (PV.not rfl rfl) ?_
  refine RG.pv rfl (PV.mvB (.inl rfl) rfl) ?_
  refine RG.gs rfl rfl rfl (fun hp => (PV.mvI (.inl rfl) rfl)) ?_
  refine RG.gsC rfl rfl rfl rfl En167 (fun hp => ⟨_, (acons (gs_t hp) anil), distance_s ⟨rfl, rfl, rfl⟩⟩) ?_
  refine RG.gs rfl rfl rfl (fun hp => (PV.not rfl (gs_t hp))) ?_
  refine RG.pv rfl (PV.pickO rfl rfl rfl (fun hq => gs_t (geqF hq))) ?_
  refine RG.nil ?_
  refine WP.cond rfl (fun h2 => ?_) (fun h2 => ?_)
  · have e : widthL xs w = [] := by rw [widthL, if_neg]; cases h3 : isReg xs <;> cases h4 : okDist w <;> simp_all
    rw [e] at k
    refine WP.seq ?_
    refine WP.region ?_
    refine RG.ot rfl (OT.bslice (F := rectT) (els := []) rfl El35 rfl (by decide) rfl (by decide) trivial fun v13 => ?_)
    refine RG.pv rfl (PV.asg (v := v13) rfl rfl) ?_
    refine RG.nil ?_
    refine WP.ret ?_
    exact ⟨_, _, ResV.one rfl rfl, Cv.p, k v13⟩
  · have h3 : isReg xs = true ∧ okDist w = true := by cases h3 : isReg xs <;> cases h4 : okDist w <;> simp_all
    have hreg := h3.1
    refine WP.skip ?_
    refine WP.seq ?_
    refine WP.region ?_
    refine RG.pv rfl (PV.move (v := v) rfl rfl) ?_
    refine RG.callF (vs := [v]) rfl rfl En134 rfl (l03Bits_s (Rs.up h1) (fun i hi => valid_get (isReg_valid hreg) hi) (fun v15 => ?_))
    refine RG.callF (vs := [v15]) rfl rfl En169 rfl (runsAll_s Rs.o (bits_length _) (fun v16 outv16 houtv16 => have hlnv16 := houtv16.len; ?_))
    refine RG.pv rfl (PV.mvI (.inl rfl) rfl) ?_
    refine RG.callF (vs := [v16, _]) rfl rfl En168 rfl (mark_s Rs.o (fun r hr => by obtain ⟨ver, l, k, lo, hi, g1, rfl⟩ := houtv16.run r hr; exact lineR_valid g1) (by omega) (fun v18 Dv18 hDv18 hgv18 => ?_))
    refine RG.callF (vs := [v18]) rfl rfl En133 rfl (l03Canon_s Rs.o hDv18 (fun v19 => ?_))
    refine RG.pv rfl (PV.asg (v := v19) rfl rfl) ?_
    refine RG.nil ?_
    refine WP.ret ?_
    have e : widthL xs w = canon Dv18 := by rw [widthL, if_pos (by rw [h3.1, h3.2]; rfl), celL_eq (P := Thin (bits xs) w) hDv18 (fun y x hy hx => by rw [hgv18 y x hy hx, markC_iff houtv16])]
    rw [e] at k
    exact ⟨_, _, ResV.one rfl rfl, Cv.p, k v19⟩
end Go.Proofs.YtgngpegmaceaiaaGreat
namespace Go.Proofs.YtgngpegmaceaiaaGreat
set_option linter.unusedVariables false
set_option linter.unusedSimpArgs false
open Go
set_option maxRecDepth 20000
set_option linter.unusedSimpArgs false
variable {G : Gh} {L : List Ch} {R : Value → Gh → List Ch → Prop}
def notB (S : List Bool) : List Bool := S.map (!·)
theorem notB_len (S : List Bool) : (notB S).length = S.length := by simp [notB]
theorem mapB_set {f : Nat → Bool} {E : List Bool} {i n : Nat} (hi : i < n) (hE : E = (List.range i).map f ++ List.replicate (n - i) false) : E.set i (f i) = (List.range (i + 1)).map f ++ List.replicate (n - (i + 1)) false := by
  rw [hE, List.set_append_right _ _ (by simp), List.range_succ, List.map_append, List.append_assoc]
  congr 1
  rw [show n - i = (n - (i + 1)) + 1 by omega, List.replicate_succ]
  simp
theorem mapB_all {f : Nat → Bool} {S : List Bool} {g : Bool → Bool} (h : ∀ j, j < S.length → f j = g (gd S j)) : (List.range S.length).map f ++ List.replicate (S.length - S.length) false = S.map g := by
  rw [Nat.sub_self, List.replicate_zero, List.append_nil]
  apply List.ext_getElem
  · simp
  · intro j h1 h2
    have h3 : j < S.length := by simpa using h1
    simp only [List.getElem_map, List.getElem_range, h j h3]
    rw [gd_eq h3]
theorem outside_s {v : Value} {S : List Bool} (h1 : Rs G L boolT v S) (hl : S.length = 6400) (k : ∀ v', R v' G (osl 4 boolT v' (notB S) :: L)) : CallT Tryz.prog 244 #[v] G L R := by
  refine CallT.enter (args := _) Tryz.func244 rfl rfl (by kernel_rfl) rfl ?_
  refine WP.seq ?_
  refine WP.region ?_
  refine RG.pv rfl (PV.asg rfl rfl) ?_
  refine RG.nil ?_
  refine WP.seq ?_
  refine WP.region ?_
  refine RG.pv rfl (PV.move (v := v) rfl rfl) ?_
  refine RG.pv rfl (PV.len (v := v) rfl Tryz.underlying149 rfl (SlF.r h1)) ?_
  refine RG.ot rfl (OT.make (F := boolT) (a0 := false) rfl El149 rfl (by decide) rfl rfl (by omega) (by omega) fun v7 => ?_)
  refine RG.pv rfl (PV.asg (v := v7) rfl rfl) ?_
  refine RG.nil ?_
  refine WP.seq ?_
  refine WP.seq ?_
  refine WP.region ?_
  refine RG.pv rfl (PV.mvI (.inr rfl) rfl) ?_
  refine RG.nil ?_
  refine WP.block ?_
  refine WP.loop2 [0, 3] (fun (i : Nat) (E : List Bool) => i ≤ S.length ∧ E = (List.range i).map (fun j => !gd S j) ++ List.replicate (S.length - i) false) (fun (i : Nat) (E : List Bool) => [(4, vi i)]) (fun (i : Nat) (E : List Bool) => osl 4 boolT v7 E :: L) (fun (i : Nat) (E : List Bool) => S.length - i) 0 (List.replicate S.length false) ⟨by omega, by simp⟩ ⟨rfl, trivial⟩ Cv.p ?_
  rintro i E τ ⟨hi, hE⟩
  refine WP.seq ?_
  refine WP.seq ?_
  refine WP.region ?_
  refine RG.pv rfl (PV.mvI (.inl rfl) rfl) ?_
  refine RG.pv rfl (PV.move (v := v) rfl rfl) ?_
  refine RG.pv rfl (PV.len (v := v) rfl Tryz.underlying149 rfl (SlF.r h1)) ?_
  refine RG.pv rfl (PV.lss rfl rfl rfl) ?_
  refine RG.nil ?_
  have hEl : E.length = S.length := by rw [hE]; simp; omega
  refine WP.cond rfl (fun h2 => ?_) (fun h2 => ?_)
  · have h2 := of_decide_eq_true h2
    have hn := mapB_set (f := fun j => !gd S j) (n := S.length) (i := i) (by omega) hE
    refine WP.skip ?_
    refine WP.seq ?_
    refine WP.block ?_
    refine WP.region ?_
    refine RG.pv rfl (PV.move (v := v7) rfl rfl) ?_
    refine RG.pv rfl (PV.mvI (.inl rfl) rfl) ?_
    refine RG.pv rfl (PV.move (v := v) rfl rfl) ?_
    refine RG.pv rfl (PV.mvI (.inl rfl) rfl) ?_
    refine RG.pv rfl (PV.idxS (v := v) rfl Is149 rfl (SlF.r h1) rfl rfl (by omega)) ?_
    refine RG.pv rfl (PV.loadE1 rfl Sc4 rfl rfl (El.r h1 (getG (by omega))) rfl) ?_
    refine RG.pv rfl (PV.not rfl rfl) ?_
    refine RG.pv rfl (PV.idxS (v := v7) rfl Is149 rfl SlF.o rfl rfl (by omega)) ?_
    refine RG.ot rfl (OT.storeE (F := boolT) rfl Sz4 rfl rfl rfl (Cl.c rfl) (OneC.c rfl) (by omega) ?_)
    refine RG.nil ?_
    refine WP.region ?_
    refine RG.pv rfl (PV.mvI (.inl rfl) rfl) ?_
    refine RG.pv rfl (PV.add rfl rfl rfl (by omega)) ?_
    refine RG.pv rfl (PV.mvI (.inr rfl) rfl) ?_
    refine RG.nil ?_
    exact ⟨rfl, i + 1, _, ⟨by omega, hn⟩, ⟨rfl, trivial⟩, ⟨rfl, rfl, trivial⟩, Cv.p, by omega⟩
  · have h2 := of_decide_eq_false h2
    obtain rfl : i = S.length := by omega
    rw [mapB_all (g := (!·)) (fun j _ => rfl)] at hE
    have hE' : E = notB S := hE
    rw [hE']
    refine WP.exit ?_
    refine WP.seq ?_
    refine WP.region ?_
    refine RG.pv rfl (PV.move (v := v7) rfl rfl) ?_
    refine RG.pv rfl (PV.asg (v := v7) rfl rfl) ?_
    refine RG.nil ?_
    refine WP.ret ?_
    exact ⟨_, _, ResV.one rfl rfl, Cv.p, k v7⟩
def endP (r : Rect) (ver : Bool) : Pt := bif ver then ⟨r.x0, r.y0 - 1⟩ else ⟨r.x0 - 1, r.y0⟩
def endQ (r : Rect) (ver : Bool) : Pt := bif ver then ⟨r.x0, r.y1⟩ else ⟨r.x1, r.y0⟩
theorem ends_s {r : Rect} {ver : Bool} (hv : validRect r = true) (k : R (.tuple #[vpt (endP r ver), vpt (endQ r ver)]) G L) : CallT Tryz.prog 245 #[vrect r, .bool ver] G L R := by
  have h := validR_iff.1 hv
  refine CallT.enter (args := _) Tryz.func245 rfl rfl (by kernel_rfl) rfl ?_
  refine WP.seq ?_
  refine WP.region ?_
  refine RG.ot rfl (OT.box (cs := rectT.enc r) rfl rfl rfl fun b2 => ?_)
  refine RG.ot rfl (OT.alloc rfl Zr210 fun b4 => ?_)
  refine RG.ot rfl (OT.alloc rfl Zr210 fun b5 => ?_)
  refine RG.nil ?_
  refine WP.seq ?_
  refine WP.seq ?_
  refine WP.region ?_
  refine RG.pv rfl (PV.mvB (.inl rfl) rfl) ?_
  refine RG.nil ?_
  refine WP.cond rfl (fun h2 => ?_) (fun h2 => ?_)
  · subst h2
    refine WP.seq ?_
    refine WP.regionHD [.b b4, .b b5] (.q 0 (.q 1 (.q 2 (.q 3 (.q 4 (.q 5 (.q 6 (.q 7 (.q 8 (.q 9 (.q 10 (.l 11 (.l 12 Sch.nil))))))))))))) (by kernel_rfl) (by kernel_rfl) (by kernel_rfl) rfl ?_
    refine RH.pv rfl (fun _ _ _ _ h => h) (Gh.le_refl _) PickC.pick rfl (PV.field rfl Fo101_0 rfl) ?_
    refine RH.pv rfl (fun _ _ _ _ h => h) (Gh.le_refl _) PickC.pick rfl (PV.load1 rfl Sc2 rfl (Rd.blk rfl)) ?_
    refine RH.pv rfl (fun _ _ _ _ h => h) (Gh.le_refl _) PickC.pick rfl (PV.field rfl Fo101_1 rfl) ?_
    refine RH.pv rfl (fun _ _ _ _ h => h) (Gh.le_refl _) PickC.pick rfl (PV.load1 rfl Sc2 rfl (Rd.blk rfl)) ?_
    refine RH.pv rfl (fun _ _ _ _ h => h) (Gh.le_refl _) PickC.pick rfl (PV.sub rfl rfl rfl (by omega)) ?_
    refine RH.pv rfl (fun _ _ _ _ h => h) (Gh.le_refl _) PickC.pick rfl (PV.build (vs := [(0, [vi _]), (1, [vi _])]) (out := [_, _]) rfl Zr210 Pl210 ⟨rfl, (Cl.c rfl), ⟨rfl, (Cl.c rfl), trivial⟩⟩ rfl) ?_
    refine RH.pv rfl (fun _ _ _ _ h => h) (Gh.le_refl _) PickC.pick rfl (PV.field rfl Fo101_0 rfl) ?_
    refine RH.pv rfl (fun _ _ _ _ h => h) (Gh.le_refl _) PickC.pick rfl (PV.load1 rfl Sc2 rfl (Rd.blk rfl)) ?_
    refine RH.pv rfl (fun _ _ _ _ h => h) (Gh.le_refl _) PickC.pick rfl (PV.field rfl Fo101_3 rfl) ?_
    refine RH.pv rfl (fun _ _ _ _ h => h) (Gh.le_refl _) PickC.pick rfl (PV.load1 rfl Sc2 rfl (Rd.blk rfl)) ?_
    refine RH.pv rfl (fun _ _ _ _ h => h) (Gh.le_refl _) PickC.pick rfl (PV.build (vs := [(0, [vi _]), (1, [vi _])]) (out := [_, _]) rfl Zr210 Pl210 ⟨rfl, (Cl.c rfl), ⟨rfl, (Cl.c rfl), trivial⟩⟩ rfl) ?_
    refine RH.ot rfl rfl (OT.storeW (vs := [vi _, vi _]) rfl Sz210 rfl rfl (Cl.c rfl) rfl rfl (OneC.c rfl) ⟨Gh.le_refl _, PickC.pick, ?_⟩)
    refine RH.ot rfl rfl (OT.storeW (vs := [vi _, vi _]) rfl Sz210 rfl rfl (Cl.c rfl) rfl rfl (OneC.c rfl) ⟨Gh.le_refl _, PickC.pick, ?_⟩)
    refine RH.nil ?_
    refine WP.ret ?_
    exact ⟨_, _, ResV.two rfl (RV1.cell rfl Ag210 rfl) (RV1.cell rfl Ag210 rfl), Cv.p, k⟩
  · subst h2
    refine WP.skip ?_
    refine WP.seq ?_
    refine WP.regionHD [.b b4, .b b5] (.q 0 (.q 1 (.q 2 (.q 3 (.q 4 (.q 5 (.q 6 (.q 7 (.q 8 (.q 9 (.q 10 (.l 11 (.l 12 Sch.nil))))))))))))) (by kernel_rfl) (by kernel_rfl) (by kernel_rfl) rfl ?_
    refine RH.pv rfl (fun _ _ _ _ h => h) (Gh.le_refl _) PickC.pick rfl (PV.field rfl Fo101_0 rfl) ?_
    refine RH.pv rfl (fun _ _ _ _ h => h) (Gh.le_refl _) PickC.pick rfl (PV.load1 rfl Sc2 rfl (Rd.blk rfl)) ?_
    refine RH.pv rfl (fun _ _ _ _ h => h) (Gh.le_refl _) PickC.pick rfl (PV.sub rfl rfl rfl (by omega)) ?_
    refine RH.pv rfl (fun _ _ _ _ h => h) (Gh.le_refl _) PickC.pick rfl (PV.field rfl Fo101_1 rfl) ?_
    refine RH.pv rfl (fun _ _ _ _ h => h) (Gh.le_refl _) PickC.pick rfl (PV.load1 rfl Sc2 rfl (Rd.blk rfl)) ?_
    refine RH.pv rfl (fun _ _ _ _ h => h) (Gh.le_refl _) PickC.pick rfl (PV.build (vs := [(0, [vi _]), (1, [vi _])]) (out := [_, _]) rfl Zr210 Pl210 ⟨rfl, (Cl.c rfl), ⟨rfl, (Cl.c rfl), trivial⟩⟩ rfl) ?_
    refine RH.pv rfl (fun _ _ _ _ h => h) (Gh.le_refl _) PickC.pick rfl (PV.field rfl Fo101_2 rfl) ?_
    refine RH.pv rfl (fun _ _ _ _ h => h) (Gh.le_refl _) PickC.pick rfl (PV.load1 rfl Sc2 rfl (Rd.blk rfl)) ?_
    refine RH.pv rfl (fun _ _ _ _ h => h) (Gh.le_refl _) PickC.pick rfl (PV.field rfl Fo101_1 rfl) ?_
    refine RH.pv rfl (fun _ _ _ _ h => h) (Gh.le_refl _) PickC.pick rfl (PV.load1 rfl Sc2 rfl (Rd.blk rfl)) ?_
    refine RH.pv rfl (fun _ _ _ _ h => h) (Gh.le_refl _) PickC.pick rfl (PV.build (vs := [(0, [vi _]), (1, [vi _])]) (out := [_, _]) rfl Zr210 Pl210 ⟨rfl, (Cl.c rfl), ⟨rfl, (Cl.c rfl), trivial⟩⟩ rfl) ?_
    refine RH.ot rfl rfl (OT.storeW (vs := [vi _, vi _]) rfl Sz210 rfl rfl (Cl.c rfl) rfl rfl (OneC.c rfl) ⟨Gh.le_refl _, PickC.pick, ?_⟩)
    refine RH.ot rfl rfl (OT.storeW (vs := [vi _, vi _]) rfl Sz210 rfl rfl (Cl.c rfl) rfl rfl (OneC.c rfl) ⟨Gh.le_refl _, PickC.pick, ?_⟩)
    refine RH.nil ?_
    refine WP.ret ?_
    exact ⟨_, _, ResV.two rfl (RV1.cell rfl Ag210 rfl) (RV1.cell rfl Ag210 rfl), Cv.p, k⟩
def orZ (A B : List Bool) : List Bool := (List.range A.length).map fun j => gd A j || gd B j
theorem orZ_len (A B : List Bool) : (orZ A B).length = A.length := by simp [orZ]
def gapE (A B : List Bool) (ver : Bool) (r : Rect) : Bool := (celB A (endP r ver).x (endP r ver).y && celB B (endQ r ver).x (endQ r ver).y) || (celB B (endP r ver).x (endP r ver).y && celB A (endQ r ver).x (endQ r ver).y)
theorem filt_succ {α : Type} [Inhabited α] (p : α → Bool) {xs : List α} {i : Nat} (h : i < xs.length) : (xs.take (i + 1)).filter p = (xs.take i).filter p ++ (if p (gd xs i) = true then [gd xs i] else []) := by
  rw [List.take_add_one, getG h, List.filter_append]; congr 1; cases h2 : p (gd xs i) <;> simp [h2]
theorem betw_s {u v : Value} {A B : List Bool} {ver : Bool} (h1 : Rs G L boolT u A) (h2 : Rs G L boolT v B) (hA : A.length = 6400) (hB : B.length = 6400) (k : ∀ v' out, RunsOf (notB (orZ A B)) ver out → R v' G (osl 101 rectT v' (out.filter (gapE A B ver)) :: L)) : CallT Tryz.prog 216 #[u, v, .bool ver] G L R := by
  refine CallT.enter (args := _) Tryz.func216 rfl rfl (by kernel_rfl) rfl ?_
  refine WP.seq ?_
  refine WP.region ?_
  refine RG.pv rfl (PV.asg rfl rfl) ?_
  refine RG.nil ?_
  refine WP.seq ?_
  refine WP.region ?_
  refine RG.pv rfl (PV.move (v := u) rfl rfl) ?_
  refine RG.pv rfl (PV.len (v := u) rfl Tryz.underlying149 rfl (SlF.r h1)) ?_
  refine RG.ot rfl (OT.make (F := boolT) (a0 := false) rfl El149 rfl (by decide) rfl rfl (by omega) (by omega) fun v16 => ?_)
  refine RG.pv rfl (PV.asg (v := v16) rfl rfl) ?_
  refine RG.nil ?_
  refine WP.seq ?_
  refine WP.seq ?_
  refine WP.region ?_
  refine RG.pv rfl (PV.mvI (.inr rfl) rfl) ?_
  refine RG.nil ?_
  refine WP.block ?_
  refine WP.loop2 [0, 1, 2, 7] (fun (i : Nat) (E : List Bool) => i ≤ A.length ∧ E = (List.range i).map (fun j => gd A j || gd B j) ++ List.replicate (A.length - i) false) (fun (i : Nat) (E : List Bool) => [(8, vi i)]) (fun (i : Nat) (E : List Bool) => osl 4 boolT v16 E :: L) (fun (i : Nat) (E : List Bool) => A.length - i) 0 (List.replicate A.length false) ⟨by omega, by simp⟩ ⟨rfl, trivial⟩ Cv.p ?_
  rintro i E τ ⟨hi, hE⟩
  refine WP.seq ?_
  refine WP.seq ?_
  refine WP.region ?_
  refine RG.pv rfl (PV.mvI (.inl rfl) rfl) ?_
  refine RG.pv rfl (PV.move (v := u) rfl rfl) ?_
  refine RG.pv rfl (PV.len (v := u) rfl Tryz.underlying149 rfl (SlF.r h1)) ?_
  refine RG.pv rfl (PV.lss rfl rfl rfl) ?_
  refine RG.nil ?_
  have hEl : E.length = A.length := by rw [hE]; simp; omega
  refine WP.cond rfl (fun h3 => ?_) (fun h3 => ?_)
  · have h3 := of_decide_eq_true h3
    have hn := mapB_set (f := fun j => gd A j || gd B j) (n := A.length) (i := i) (by omega) hE
    refine WP.skip ?_
    refine WP.seq ?_
    refine WP.block ?_
    refine WP.region ?_
    refine RG.pv rfl (PV.move (v := v16) rfl rfl) ?_
    refine RG.pv rfl (PV.mvI (.inl rfl) rfl) ?_
    refine RG.pv rfl (PV.move (v := u) rfl rfl) ?_
    refine RG.pv rfl (PV.mvI (.inl rfl) rfl) ?_
    refine RG.pv rfl (PV.idxS (v := u) rfl Is149 rfl (SlF.r h1) rfl rfl (by omega)) ?_
    refine RG.pv rfl (PV.loadE1 rfl Sc4 rfl rfl (El.r h1 (getG (by omega))) rfl) ?_
    refine RG.pv rfl (PV.mvB (.inl rfl) rfl) ?_
    refine RG.gs rfl rfl rfl (fun hp => (PV.move (v := v) rfl rfl)) ?_
    refine RG.gs rfl rfl rfl (fun hp => (PV.mvI (.inl rfl) rfl)) ?_
    refine RG.gs rfl rfl rfl (fun hp => (PV.idxS (v := v) rfl Is149 (gs_t hp) (SlF.r h2) (gs_t hp) rfl (by first | omega | (simp at hp; omega)))) ?_
    refine RG.gs rfl rfl rfl (fun hp => (PV.loadE1 rfl Sc4 (gs_t hp) rfl (El.r h2 (getG (by first | omega | (simp at hp; omega)))) rfl)) ?_
    refine RG.pv rfl (PV.pickO rfl rfl rfl (fun hq => gs_t (geqF hq))) ?_
    refine RG.pv rfl (PV.idxS (v := v16) rfl Is149 rfl SlF.o rfl rfl (by omega)) ?_
    refine RG.ot rfl (OT.storeE (F := boolT) rfl Sz4 rfl rfl rfl (Cl.c rfl) (OneC.c rfl) (by omega) ?_)
    refine RG.nil ?_
    refine WP.region ?_
    refine RG.pv rfl (PV.mvI (.inl rfl) rfl) ?_
    refine RG.pv rfl (PV.add rfl rfl rfl (by omega)) ?_
    refine RG.pv rfl (PV.mvI (.inr rfl) rfl) ?_
    refine RG.nil ?_
    exact ⟨rfl, i + 1, _, ⟨by omega, hn⟩, ⟨rfl, trivial⟩, ⟨rfl, rfl, rfl, rfl, trivial⟩, Cv.p, by omega⟩
  · have h3 := of_decide_eq_false h3
    obtain rfl : i = A.length := by omega
    have hE' : E = orZ A B := by rw [hE, Nat.sub_self, List.replicate_zero, List.append_nil]; rfl
    rw [hE']
    refine WP.exit ?_
    refine WP.seq ?_
    refine WP.region ?_
    refine RG.pv rfl (PV.move (v := v16) rfl rfl) ?_
    refine RG.callF (vs := [v16]) rfl rfl En244 rfl (outside_s Rs.o (by rw [orZ_len]; exact hA) (fun v37 => ?_))
    refine RG.pv rfl (PV.mvB (.inl rfl) rfl) ?_
    refine RG.callF (vs := [v37, _]) rfl rfl En215 rfl (runs_s Rs.o (by rw [notB_len, orZ_len]; exact hA) (fun v39 outv39 houtv39 => have hlnv39 := houtv39.len; ?_))
    refine RG.pv rfl (PV.asg (v := v39) rfl rfl) ?_
    refine RG.nil ?_
    refine WP.seq ?_
    refine WP.region ?_
    refine RG.ot rfl (OT.bslice (F := rectT) (els := []) rfl El35 rfl (by decide) rfl (by decide) trivial fun v40 => ?_)
    refine RG.pv rfl (PV.asg (v := v40) rfl rfl) ?_
    refine RG.nil ?_
    refine WP.seq ?_
    refine WP.seq ?_
    refine WP.region ?_
    refine RG.pv rfl (PV.mvI (.inr rfl) rfl) ?_
    refine RG.nil ?_
    refine WP.block ?_
    have hvr : ∀ r ∈ outv39, validRect r = true := fun r hr => by obtain ⟨l, k, lo, hi, g1, rfl⟩ := houtv39.run r hr; exact lineR_valid g1
    refine WP.loop3 [0, 1, 2, 9] (fun (i : Nat) (out : List Rect) (q : Value) => i ≤ outv39.length ∧ out = (outv39.take i).filter (gapE A B ver)) (fun (i : Nat) (out : List Rect) (q : Value) => [(11, vi i), (10, q)]) (fun (i : Nat) (out : List Rect) (q : Value) => osl 101 rectT q out :: osl 101 rectT v39 outv39 :: L) (fun (i : Nat) (out : List Rect) (q : Value) => outv39.length - i) 0 [] v40 ⟨by omega, rfl⟩ ⟨rfl, rfl, trivial⟩ Cv.p ?_
    rintro i out q τ1 ⟨hi, hout⟩
    refine WP.seq ?_
    refine WP.seq ?_
    refine WP.region ?_
    refine RG.pv rfl (PV.mvI (.inl rfl) rfl) ?_
    refine RG.pv rfl (PV.move (v := v39) rfl rfl) ?_
    refine RG.pv rfl (PV.len (v := v39) rfl Tryz.underlying35 rfl SlF.o) ?_
    refine RG.pv rfl (PV.lss rfl rfl rfl) ?_
    refine RG.nil ?_
    have hol : out.length ≤ 6400 := by have := List.length_filter_le (gapE A B ver) (outv39.take i); rw [← hout, List.length_take] at this; omega
    refine WP.cond rfl (fun h4 => ?_) (fun h4 => ?_)
    · have h4 := of_decide_eq_true h4
      have h40 : i < outv39.length := by omega
      have hf := filt_succ (gapE A B ver) h40
      refine WP.skip ?_
      refine WP.seq ?_
      refine WP.block ?_
      refine WP.seq ?_
      refine WP.region ?_
      refine RG.pv rfl (PV.move (v := v39) rfl rfl) ?_
      refine RG.pv rfl (PV.mvI (.inl rfl) rfl) ?_
      refine RG.pv rfl (PV.idxS (v := v39) rfl Is35 rfl SlF.o rfl rfl (by omega)) ?_
      refine RG.pv rfl (PV.loadE rfl Ag101 rfl rfl (El.o (getG (by omega)))) ?_
      refine RG.pv rfl (PV.mvB (.inl rfl) rfl) ?_
      refine RG.callF (vs := [_, _]) rfl rfl En245 rfl (ends_s (hvr _ (gd_mem (by omega))) ?_)
      refine RG.pv rfl (PV.move (v := .tuple _) rfl rfl) ?_
      refine RG.pv rfl (PV.ext rfl rfl rfl) ?_
      refine RG.pv rfl (PV.ext rfl rfl rfl) ?_
      refine RG.ot rfl (OT.alloc rfl Zr210 fun b12 => ?_)
      refine RG.ot rfl (OT.alloc rfl Zr210 fun b13 => ?_)
      refine RG.ot rfl (OT.storeW (vs := [vi _, vi _]) rfl Sz210 rfl rfl (Cl.c rfl) rfl rfl (OneC.c rfl) ?_)
      refine RG.ot rfl (OT.storeW (vs := [vi _, vi _]) rfl Sz210 rfl rfl (Cl.c rfl) rfl rfl (OneC.c rfl) ?_)
      refine RG.nil ?_
      refine WP.seq ?_
      refine WP.region ?_
      refine RG.pv rfl (PV.move (v := u) rfl rfl) ?_
      refine RG.pv rfl (PV.field rfl Fo210_0 rfl) ?_
      refine RG.pv rfl (PV.load1 rfl Sc2 rfl (Rd.blk rfl)) ?_
      refine RG.pv rfl (PV.field rfl Fo210_1 rfl) ?_
      refine RG.pv rfl (PV.load1 rfl Sc2 rfl (Rd.blk rfl)) ?_
      refine RG.callF (vs := [u, _, _]) rfl rfl En242 rfl (l17Cel_s (Rs.up h1) hA ?_)
      refine RG.pv rfl (PV.mvB (.inl rfl) rfl) ?_
      refine RG.gs rfl rfl rfl (fun hp => (PV.move (v := v) rfl rfl)) ?_
      refine RG.gs rfl rfl rfl (fun hp => (PV.field rfl Fo210_0 rfl)) ?_
      refine RG.gs rfl rfl rfl (fun hp => (PV.load1 rfl Sc2 (gs_t hp) (Rd.blk rfl))) ?_
      refine RG.gs rfl rfl rfl (fun hp => (PV.field rfl Fo210_1 rfl)) ?_
      refine RG.gs rfl rfl rfl (fun hp => (PV.load1 rfl Sc2 (gs_t hp) (Rd.blk rfl))) ?_
      refine RG.gsC rfl rfl rfl rfl En242 (fun hp => ⟨_, (acons (gs_t hp) (acons (gs_t hp) (acons (gs_t hp) anil))), l17Cel_s (Rs.up h2) hB ⟨rfl, rfl, rfl⟩⟩) ?_
      refine RG.pv rfl (PV.pickA rfl rfl (fun hq => gs_t (geqT hq)) rfl) ?_
      refine RG.pv rfl (PV.mvB (.inl rfl) rfl) ?_
      refine RG.gs rfl rfl rfl (fun hp => (PV.move (v := v) rfl rfl)) ?_
      refine RG.gs rfl rfl rfl (fun hp => (PV.field rfl Fo210_0 rfl)) ?_
      refine RG.gs rfl rfl rfl (fun hp => (PV.load1 rfl Sc2 (gs_t hp) (Rd.blk rfl))) ?_
      refine RG.gs rfl rfl rfl (fun hp => (PV.field rfl Fo210_1 rfl)) ?_
      refine RG.gs rfl rfl rfl (fun hp => (PV.load1 rfl Sc2 (gs_t hp) (Rd.blk rfl))) ?_
      refine RG.gsC rfl rfl rfl rfl En242 (fun hp => ⟨_, (acons (gs_t hp) (acons (gs_t hp) (acons (gs_t hp) anil))), l17Cel_s (Rs.up h2) hB ⟨rfl, rfl, rfl⟩⟩) ?_
      refine RG.gs rfl rfl rfl (fun hp => (PV.mvB (.inl rfl) (gs_t hp))) ?_
      refine RG.gs2 rfl rfl rfl (fun hp => (PV.move (v := u) rfl rfl)) ?_
      refine RG.gs2 rfl rfl rfl (fun hp => (PV.field rfl Fo210_0 rfl)) ?_
      refine RG.gs2 rfl rfl rfl (fun hp => (PV.load1 rfl Sc2 (gs_t hp) (Rd.blk rfl))) ?_
      refine RG.gs2 rfl rfl rfl (fun hp => (PV.field rfl Fo210_1 rfl)) ?_
      refine RG.gs2 rfl rfl rfl (fun hp => (PV.load1 rfl Sc2 (gs_t hp) (Rd.blk rfl))) ?_
      refine RG.gsC2 rfl rfl rfl rfl En242 (fun hp => ⟨_, (acons (gs_t hp) (acons (gs_t hp) (acons (gs_t hp) anil))), l17Cel_s (Rs.up h1) hA ⟨rfl, rfl, rfl⟩⟩) ?_
      refine RG.gs rfl rfl rfl (fun hp => (PV.pickA rfl (gs_t hp) (fun hq => gs_t (gandT hp hq)) rfl)) ?_
      refine RG.pv rfl (PV.pickO rfl rfl rfl (fun hq => gs_t (geqF hq))) ?_
      refine RG.nil ?_
      refine WP.cond rfl (fun h5 => ?_) (fun h5 => ?_)
      · have h6 : gapE A B ver (gd outv39 i) = true := h5
        rw [if_pos h6, ← hout] at hf
        refine WP.region ?_
        refine RG.pv rfl (PV.move (v := q) rfl rfl) ?_
        refine RG.pv rfl (PV.move (v := v39) rfl rfl) ?_
        refine RG.pv rfl (PV.mvI (.inl rfl) rfl) ?_
        refine RG.pv rfl (PV.idxS (v := v39) rfl Is35 rfl SlF.o rfl rfl (by omega)) ?_
        refine RG.pv rfl (PV.loadE rfl Ag101 rfl rfl (El.o (getG (by omega)))) ?_
        refine RG.ot rfl (OT.bslice (F := rectT) (els := [_]) rfl El35 rfl (by decide) rfl (by decide) ⟨rfl, (Cl.c rfl), trivial⟩ fun v91 => ?_)
        refine RG.ot rfl (OT.append (v := q) (u := v91) (F := rectT) rfl El35 rfl (by decide) rfl rfl Rs.o (OneL.c (fun _ => rfl)) rfl (by first | omega | (simp <;> omega)) fun v92 => ?_)
        refine RG.pv rfl (PV.asg (v := v92) rfl rfl) ?_
        refine RG.nil ?_
        refine WP.region ?_
        refine RG.pv rfl (PV.mvI (.inl rfl) rfl) ?_
        refine RG.pv rfl (PV.add rfl rfl rfl (by omega)) ?_
        refine RG.pv rfl (PV.mvI (.inr rfl) rfl) ?_
        refine RG.nil ?_
        exact ⟨rfl, i + 1, _, v92, ⟨by omega, hf.symm⟩, ⟨rfl, rfl, trivial⟩, ⟨rfl, rfl, rfl, rfl, trivial⟩, Cv.p, by omega⟩
      · have h6 : ¬ gapE A B ver (gd outv39 i) = true := by rw [show gapE A B ver (gd outv39 i) = false from h5]; decide
        rw [if_neg h6, ← hout, List.append_nil] at hf
        refine WP.skip ?_
        refine WP.region ?_
        refine RG.pv rfl (PV.mvI (.inl rfl) rfl) ?_
        refine RG.pv rfl (PV.add rfl rfl rfl (by omega)) ?_
        refine RG.pv rfl (PV.mvI (.inr rfl) rfl) ?_
        refine RG.nil ?_
        exact ⟨rfl, i + 1, _, q, ⟨by omega, hf.symm⟩, ⟨rfl, rfl, trivial⟩, ⟨rfl, rfl, rfl, rfl, trivial⟩, Cv.p, by omega⟩
    · have h4 := of_decide_eq_false h4
      rw [List.take_of_length_le (by omega)] at hout
      rw [hout]
      refine WP.exit ?_
      refine WP.seq ?_
      refine WP.region ?_
      refine RG.pv rfl (PV.move (v := q) rfl rfl) ?_
      refine RG.pv rfl (PV.asg (v := q) rfl rfl) ?_
      refine RG.nil ?_
      refine WP.ret ?_
      exact ⟨_, _, ResV.one rfl rfl, Cv.p, k q outv39 houtv39⟩
/-- the gaps of two sets, in any order -/
structure GapsA (A B : List Bool) (out : List Rect) : Prop where
  len : out.length ≤ 12800
  run : ∀ r ∈ out, ∃ ver l k lo hi, isRun (notB (orZ A B)) ver l k lo hi ∧ gapE A B ver (lineR ver l lo hi) = true ∧ r = lineR ver l lo hi
  all : ∀ ver l k lo hi, isRun (notB (orZ A B)) ver l k lo hi → gapE A B ver (lineR ver l lo hi) = true → lineR ver l lo hi ∈ out
theorem GapsA.of {A B : List Bool} {a b : List Rect} (ha : RunsOf (notB (orZ A B)) false a) (hb : RunsOf (notB (orZ A B)) true b) : GapsA A B (a.filter (gapE A B false) ++ b.filter (gapE A B true)) := ⟨by
  have := ha.len; have := hb.len
  have := List.length_filter_le (gapE A B false) a; have := List.length_filter_le (gapE A B true) b
  rw [List.length_append]; omega, fun r hr => by
  rcases List.mem_append.1 hr with h | h
  · obtain ⟨h1, h2⟩ := List.mem_filter.1 h
    obtain ⟨l, k, lo, hi, g1, rfl⟩ := ha.run r h1; exact ⟨false, l, k, lo, hi, g1, h2, rfl⟩
  · obtain ⟨h1, h2⟩ := List.mem_filter.1 h
    obtain ⟨l, k, lo, hi, g1, rfl⟩ := hb.run r h1; exact ⟨true, l, k, lo, hi, g1, h2, rfl⟩, fun ver l k lo hi h1 h2 => by
  have hc := h1.all k h1.lk.1 h1.lk.2
  cases ver with
  | false =>
    obtain ⟨lo', hi', h3, h4⟩ := ha.all l k hc
    obtain ⟨rfl, rfl⟩ := h1.uniq h3
    exact List.mem_append_left _ (List.mem_filter.2 ⟨h4, h2⟩)
  | true =>
    obtain ⟨lo', hi', h3, h4⟩ := hb.all l k hc
    obtain ⟨rfl, rfl⟩ := h1.uniq h3
    exact List.mem_append_right _ (List.mem_filter.2 ⟨h4, h2⟩)⟩
theorem gapsAll_s {u v : Value} {A B : List Bool} (h1 : Rs G L boolT u A) (h2 : Rs G L boolT v B) (hA : A.length = 6400) (hB : B.length = 6400) (k : ∀ v' out, GapsA A B out → R v' G (osl 101 rectT v' out :: L)) : CallT Tryz.prog 170 #[u, v] G L R := by
  refine CallT.enter (args := _) Tryz.func170 rfl rfl (by kernel_rfl) rfl ?_
  refine WP.seq ?_
  refine WP.region ?_
  refine RG.pv rfl (PV.asg rfl rfl) ?_
  refine RG.nil ?_
  refine WP.seq ?_
  refine WP.region ?_
  refine RG.pv rfl (PV.move (v := u) rfl rfl) ?_
  refine RG.pv rfl (PV.move (v := v) rfl rfl) ?_
  refine RG.callF (vs := [u, v, _]) rfl rfl En216 rfl (betw_s (Rs.up h1) (Rs.up h2) hA hB (fun v7 outv7 houtv7 => have hlnv7 := houtv7.len; have hfav7 := Nat.le_trans (List.length_filter_le (gapE A B false) outv7) hlnv7; have hfbv7 := Nat.le_trans (List.length_filter_le (gapE A B true) outv7) hlnv7; ?_))
  refine RG.pv rfl (PV.move (v := u) rfl rfl) ?_
  refine RG.pv rfl (PV.move (v := v) rfl rfl) ?_
  refine RG.callF (vs := [u, v, _]) rfl rfl En216 rfl (betw_s (Rs.up h1) (Rs.up h2) hA hB (fun v10 outv10 houtv10 => have hlnv10 := houtv10.len; have hfav10 := Nat.le_trans (List.length_filter_le (gapE A B false) outv10) hlnv10; have hfbv10 := Nat.le_trans (List.length_filter_le (gapE A B true) outv10) hlnv10; ?_))
  refine RG.ot rfl (OT.append (v := v7) (u := v10) (F := rectT) rfl El35 rfl (by decide) rfl rfl Rs.o (OneL.c (fun _ => rfl)) rfl (by first | omega | (simp <;> omega)) fun v11 => ?_)
  refine RG.pv rfl (PV.asg (v := v11) rfl rfl) ?_
  refine RG.nil ?_
  refine WP.ret ?_
  exact ⟨_, _, ResV.one rfl rfl, Cv.p, k v11 _ (GapsA.of houtv7 houtv10)⟩
/-- the cell is in a gap shorter than w -/
def Nigh (A B : List Bool) (w : Int) (y x : Nat) : Prop := ∃ ver lo hi, isRun (notB (orZ A B)) ver (lnI ver y x) (plI ver y x) lo hi ∧ gapE A B ver (lineR ver (lnI ver y x) lo hi) = true ∧ hi - lo < w
theorem near_iff {A B : List Bool} {out : List Rect} (h : GapsA A B out) {w : Int} {y x : Nat} : markC out w y x = true ↔ Nigh A B w y x := by
  simp only [markC, List.any_eq_true, Bool.and_eq_true, decide_eq_true_eq]
  constructor
  · rintro ⟨r, hr, h1, h2⟩
    obtain ⟨ver, l, k, lo, hi, h3, h5, rfl⟩ := h.run r hr
    obtain ⟨rfl, h4⟩ := inR_line.1 h2
    rw [lenR_line] at h1
    exact ⟨ver, lo, hi, h3.at h4, h5, h1⟩
  · rintro ⟨ver, lo, hi, h1, h5, h2⟩
    exact ⟨_, h.all ver _ _ _ _ h1 h5, by rw [lenR_line]; exact h2, inR_line.2 ⟨rfl, h1.lk⟩⟩
noncomputable def spaceL (xs : List Rect) (w : Int) : List Rect := if (isReg xs && okDist w) = true then canon (celL (Nigh (bits xs) (bits xs) w)) else []
noncomputable def betwL (xs ys : List Rect) (w : Int) : List Rect := if (isReg xs && isReg ys && okDist w) = true then canon (celL fun y x => Nigh (bits xs) (bits ys) w y x ∨ (gb (bits xs) y x = true ∧ gb (bits ys) y x = true)) else []
theorem gd_setE {α : Type} [Inhabited α] {xs : List α} {i : Nat} {a : α} (h : i < xs.length) : gd (xs.set i a) i = a := by unfold gd; simp [h]
theorem gd_setN {α : Type} [Inhabited α] {xs : List α} {i j : Nat} {a : α} (h : i ≠ j) : gd (xs.set i a) j = gd xs j := by unfold gd; rw [List.getElem?_set_ne h]
theorem markSpacing_s {v : Value} {xs : List Rect} {w : Int} (h1 : Rs G L rectT v xs) (k : ∀ v', R v' G (osl 101 rectT v' (spaceL xs w) :: L)) : CallT Tryz.prog 115 #[v, vi w] G L R := by
  refine CallT.enter (args := _) Tryz.func115 rfl rfl (by kernel_rfl) rfl ?_
  refine WP.seq ?_
  refine WP.region ?_
  refine RG.pv rfl (PV.asg rfl rfl) ?_
  refine RG.nil ?_
  refine WP.seq ?_
  refine WP.seq ?_
  refine WP.region ?_
  refine RG.pv rfl (PV.move (v := v) rfl rfl) ?_
  refine RG.callF (vs := [v]) rfl rfl En68 rfl (l03Ok_s (Rs.up h1) ?_)
  refine RG.pv rfl (PV.not rfl rfl) ?_
  refine RG.pv rfl (PV.mvB (.inl rfl) rfl) ?_
  refine RG.gs rfl rfl rfl (fun hp => (PV.mvI (.inl rfl) rfl)) ?_
  refine RG.gsC rfl rfl rfl rfl En167 (fun hp => ⟨_, (acons (gs_t hp) anil), distance_s ⟨rfl, rfl, rfl⟩⟩) ?_
  refine RG.gs rfl rfl rfl (fun hp => (PV.not rfl (gs_t hp))) ?_
  refine RG.pv rfl (PV.pickO rfl rfl rfl (fun hq => gs_t (geqF hq))) ?_
  refine RG.nil ?_
  refine WP.cond rfl (fun h2 => ?_) (fun h2 => ?_)
  · have e : spaceL xs w = [] := by rw [spaceL, if_neg]; cases h3 : isReg xs <;> cases h4 : okDist w <;> simp_all
    rw [e] at k
    refine WP.seq ?_
    refine WP.region ?_
    refine RG.ot rfl (OT.bslice (F := rectT) (els := []) rfl El35 rfl (by decide) rfl (by decide) trivial fun v13 => ?_)
    refine RG.pv rfl (PV.asg (v := v13) rfl rfl) ?_
    refine RG.nil ?_
    refine WP.ret ?_
    exact ⟨_, _, ResV.one rfl rfl, Cv.p, k v13⟩
  · have h3 : isReg xs = true ∧ okDist w = true := by cases h3 : isReg xs <;> cases h4 : okDist w <;> simp_all
    have hreg := h3.1
    refine WP.skip ?_
    refine WP.seq ?_
    refine WP.region ?_
    refine RG.pv rfl (PV.move (v := v) rfl rfl) ?_
    refine RG.callF (vs := [v]) rfl rfl En134 rfl (l03Bits_s (Rs.up h1) (fun i hi => valid_get (isReg_valid hreg) hi) (fun v15 => ?_))
    refine RG.pv rfl (PV.move (v := v) rfl rfl) ?_
    refine RG.callF (vs := [v]) rfl rfl En134 rfl (l03Bits_s (Rs.up h1) (fun i hi => valid_get (isReg_valid hreg) hi) (fun v17 => ?_))
    refine RG.callF (vs := [v15, v17]) rfl rfl En170 rfl (gapsAll_s Rs.o Rs.o (bits_length _) (bits_length _) (fun v18 outv18 houtv18 => have hlnv18 := houtv18.len; ?_))
    refine RG.pv rfl (PV.mvI (.inl rfl) rfl) ?_
    refine RG.callF (vs := [v18, _]) rfl rfl En168 rfl (mark_s Rs.o (fun r hr => by obtain ⟨ver, l, k, lo, hi, g1, _, rfl⟩ := houtv18.run r hr; exact lineR_valid g1) (by omega) (fun v20 Dv20 hDv20 hgv20 => ?_))
    refine RG.callF (vs := [v20]) rfl rfl En133 rfl (l03Canon_s Rs.o hDv20 (fun v21 => ?_))
    refine RG.pv rfl (PV.asg (v := v21) rfl rfl) ?_
    refine RG.nil ?_
    refine WP.ret ?_
    have e : spaceL xs w = canon Dv20 := by rw [spaceL, if_pos (by rw [h3.1, h3.2]; rfl), celL_eq (P := Nigh (bits xs) (bits xs) w) hDv20 (fun y x hy hx => by rw [hgv20 y x hy hx, near_iff houtv18])]
    rw [e] at k
    exact ⟨_, _, ResV.one rfl rfl, Cv.p, k v21⟩
theorem markBetween_s {u v : Value} {xs ys : List Rect} {w : Int} (h1 : Rs G L rectT u xs) (h2 : Rs G L rectT v ys) (k : ∀ v', R v' G (osl 101 rectT v' (betwL xs ys w) :: L)) : CallT Tryz.prog 116 #[u, v, vi w] G L R := by
  refine CallT.enter (args := _) Tryz.func116 rfl rfl (by kernel_rfl) rfl ?_
  refine WP.seq ?_
  refine WP.region ?_
  refine RG.pv rfl (PV.asg rfl rfl) ?_
  refine RG.nil ?_
  refine WP.seq ?_
  refine WP.seq ?_
  refine WP.region ?_
  refine RG.pv rfl (PV.move (v := u) rfl rfl) ?_
  refine RG.callF (vs := [u]) rfl rfl En68 rfl (l03Ok_s (Rs.up h1) ?_)
  refine RG.pv rfl (PV.not rfl rfl) ?_
  refine RG.pv rfl (PV.mvB (.inl rfl) rfl) ?_
  refine RG.gs rfl rfl rfl (fun hp => (PV.move (v := v) rfl rfl)) ?_
  refine RG.gsC rfl rfl rfl rfl En68 (fun hp => ⟨_, (acons (gs_t hp) anil), l03Ok_s (Rs.up h2) ⟨rfl, rfl, rfl⟩⟩) ?_
  refine RG.gs rfl rfl rfl (fun hp => (PV.not rfl (gs_t hp))) ?_
  refine RG.pv rfl (PV.pickO rfl rfl rfl (fun hq => gs_t (geqF hq))) ?_
  refine RG.pv rfl (PV.mvB (.inl rfl) rfl) ?_
  refine RG.gs rfl rfl rfl (fun hp => (PV.mvI (.inl rfl) rfl)) ?_
  refine RG.gsC rfl rfl rfl rfl En167 (fun hp => ⟨_, (acons (gs_t hp) anil), distance_s ⟨rfl, rfl, rfl⟩⟩) ?_
  refine RG.gs rfl rfl rfl (fun hp => (PV.not rfl (gs_t hp))) ?_
  refine RG.pv rfl (PV.pickO rfl rfl rfl (fun hq => gs_t (geqF hq))) ?_
  refine RG.nil ?_
  refine WP.cond rfl (fun h3 => ?_) (fun h3 => ?_)
  · have e : betwL xs ys w = [] := by rw [betwL, if_neg]; cases g1 : isReg xs <;> cases g2 : isReg ys <;> cases g4 : okDist w <;> simp_all
    rw [e] at k
    refine WP.seq ?_
    refine WP.region ?_
    refine RG.ot rfl (OT.bslice (F := rectT) (els := []) rfl El35 rfl (by decide) rfl (by decide) trivial fun v24 => ?_)
    refine RG.pv rfl (PV.asg (v := v24) rfl rfl) ?_
    refine RG.nil ?_
    refine WP.ret ?_
    exact ⟨_, _, ResV.one rfl rfl, Cv.p, k v24⟩
  · have h4 : isReg xs = true ∧ isReg ys = true ∧ okDist w = true := by cases g1 : isReg xs <;> cases g2 : isReg ys <;> cases g4 : okDist w <;> simp_all
    have hreg := h4.1
    have hregy := h4.2.1
    refine WP.skip ?_
    refine WP.seq ?_
    refine WP.region ?_
    refine RG.pv rfl (PV.move (v := u) rfl rfl) ?_
    refine RG.callF (vs := [u]) rfl rfl En134 rfl (l03Bits_s (Rs.up h1) (fun i hi => valid_get (isReg_valid hreg) hi) (fun v26 => ?_))
    refine RG.pv rfl (PV.move (v := v) rfl rfl) ?_
    refine RG.callF (vs := [v]) rfl rfl En134 rfl (l03Bits_s (Rs.up h2) (fun i hi => valid_get (isReg_valid hregy) hi) (fun v28 => ?_))
    refine RG.pv rfl (PV.asg (v := v26) rfl rfl) ?_
    refine RG.pv rfl (PV.asg (v := v28) rfl rfl) ?_
    refine RG.nil ?_
    refine WP.seq ?_
    refine WP.region ?_
    refine RG.pv rfl (PV.move (v := v26) rfl rfl) ?_
    refine RG.pv rfl (PV.move (v := v28) rfl rfl) ?_
    refine RG.callF (vs := [v26, v28]) rfl rfl En170 rfl (gapsAll_s Rs.o Rs.o (bits_length _) (bits_length _) (fun v31 outv31 houtv31 => have hlnv31 := houtv31.len; ?_))
    refine RG.pv rfl (PV.mvI (.inl rfl) rfl) ?_
    refine RG.callF (vs := [v31, _]) rfl rfl En168 rfl (mark_s Rs.o (fun r hr => by obtain ⟨ver, l, k, lo, hi, g1, _, rfl⟩ := houtv31.run r hr; exact lineR_valid g1) (by omega) (fun v33 Dv33 hDv33 hgv33 => ?_))
    refine RG.pv rfl (PV.asg (v := v33) rfl rfl) ?_
    refine RG.nil ?_
    refine WP.seq ?_
    refine WP.seq ?_
    refine WP.region ?_
    refine RG.pv rfl (PV.mvI (.inr rfl) rfl) ?_
    refine RG.nil ?_
    refine WP.block ?_
    refine WP.loop2 [7, 8, 9] (fun (i : Nat) (E : List Bool) => i ≤ 6400 ∧ E.length = 6400 ∧ (∀ j, j < i → gd E j = (gd Dv33 j || (gd (bits xs) j && gd (bits ys) j))) ∧ (∀ j, i ≤ j → gd E j = gd Dv33 j)) (fun (i : Nat) (E : List Bool) => [(10, vi i)]) (fun (i : Nat) (E : List Bool) => osl 4 boolT v33 E :: osl 4 boolT v26 (bits xs) :: osl 4 boolT v28 (bits ys) :: L) (fun (i : Nat) (E : List Bool) => 6400 - i) 0 Dv33 ⟨by omega, hDv33, fun j h => by omega, fun j _ => rfl⟩ ⟨rfl, trivial⟩ Cv.p ?_
    rintro i E τ ⟨hi, hE, hE1, hE2⟩
    refine WP.seq ?_
    refine WP.seq ?_
    refine WP.region ?_
    refine RG.pv rfl (PV.mvI (.inl rfl) rfl) ?_
    refine RG.pv rfl (PV.move (v := v33) rfl rfl) ?_
    refine RG.pv rfl (PV.len (v := v33) rfl Tryz.underlying149 rfl SlF.o) ?_
    refine RG.pv rfl (PV.lss rfl rfl rfl) ?_
    refine RG.nil ?_
    have hbx := bits_length xs
    have hby := bits_length ys
    refine WP.cond rfl (fun h5 => ?_) (fun h5 => ?_)
    · have h5 := of_decide_eq_true h5
      have hs1 : ∀ j, j < i + 1 → gd (E.set i (gd E i || (gd (bits xs) i && gd (bits ys) i))) j = (gd Dv33 j || (gd (bits xs) j && gd (bits ys) j)) := fun j hj => by
        by_cases c : j = i
        · subst c; rw [gd_setE (by omega), hE2 j (Nat.le_refl _)]
        · rw [gd_setN (fun e => c e.symm)]; exact hE1 j (by omega)
      have hs2 : ∀ j, i + 1 ≤ j → gd (E.set i (gd E i || (gd (bits xs) i && gd (bits ys) i))) j = gd Dv33 j := fun j hj => by rw [gd_setN (by omega)]; exact hE2 j (by omega)
      refine WP.skip ?_
      refine WP.seq ?_
      refine WP.block ?_
      refine WP.region ?_
      refine RG.pv rfl (PV.move (v := v33) rfl rfl) ?_
      refine RG.pv rfl (PV.mvI (.inl rfl) rfl) ?_
      refine RG.pv rfl (PV.move (v := v33) rfl rfl) ?_
      refine RG.pv rfl (PV.mvI (.inl rfl) rfl) ?_
      refine RG.pv rfl (PV.idxS (v := v33) rfl Is149 rfl SlF.o rfl rfl (by omega)) ?_
      refine RG.pv rfl (PV.loadE1 rfl Sc4 rfl rfl (El.o (getG (by omega))) rfl) ?_
      refine RG.pv rfl (PV.mvB (.inl rfl) rfl) ?_
      refine RG.gs rfl rfl rfl (fun hp => (PV.move (v := v26) rfl rfl)) ?_
      refine RG.gs rfl rfl rfl (fun hp => (PV.mvI (.inl rfl) rfl)) ?_
      refine RG.gs rfl rfl rfl (fun hp => (PV.idxS (v := v26) rfl Is149 (gs_t hp) SlF.o (gs_t hp) rfl (by first | omega | (simp at hp; omega)))) ?_
      refine RG.gs rfl rfl rfl (fun hp => (PV.loadE1 rfl Sc4 (gs_t hp) rfl (El.o (getG (by first | omega | (simp at hp; omega)))) rfl)) ?_
      refine RG.gs rfl rfl rfl (fun hp => (PV.mvB (.inl rfl) (gs_t hp))) ?_
      refine RG.gs2 rfl rfl rfl (fun hp => (PV.move (v := v28) rfl rfl)) ?_
      refine RG.gs2 rfl rfl rfl (fun hp => (PV.mvI (.inl rfl) rfl)) ?_
      refine RG.gs2 rfl rfl rfl (fun hp => (PV.idxS (v := v28) rfl Is149 (gs_t hp) SlF.o (gs_t hp) rfl (by first | omega | (simp at hp; omega)))) ?_
      refine RG.gs2 rfl rfl rfl (fun hp => (PV.loadE1 rfl Sc4 (gs_t hp) rfl (El.o (getG (by first | omega | (simp at hp; omega)))) rfl)) ?_
      refine RG.gs rfl rfl rfl (fun hp => (PV.pickA rfl (gs_t hp) (fun hq => gs_t (gandT hp hq)) rfl)) ?_
      refine RG.pv rfl (PV.pickO rfl rfl rfl (fun hq => gs_t (geqF hq))) ?_
      refine RG.pv rfl (PV.idxS (v := v33) rfl Is149 rfl SlF.o rfl rfl (by omega)) ?_
      refine RG.ot rfl (OT.storeE (F := boolT) rfl Sz4 rfl rfl rfl (Cl.c rfl) (OneC.c rfl) (by omega) ?_)
      refine RG.nil ?_
      refine WP.region ?_
      refine RG.pv rfl (PV.mvI (.inl rfl) rfl) ?_
      refine RG.pv rfl (PV.add rfl rfl rfl (by omega)) ?_
      refine RG.pv rfl (PV.mvI (.inr rfl) rfl) ?_
      refine RG.nil ?_
      exact ⟨rfl, i + 1, (E.set i (gd E i || (gd (bits xs) i && gd (bits ys) i))), ⟨by omega, by simpa using hE, hs1, hs2⟩, ⟨rfl, trivial⟩, ⟨rfl, rfl, rfl, trivial⟩, Cv.p, by omega⟩
    · have h5 := of_decide_eq_false h5
      obtain rfl : i = 6400 := by omega
      refine WP.exit ?_
      refine WP.seq ?_
      refine WP.region ?_
      refine RG.pv rfl (PV.move (v := v33) rfl rfl) ?_
      refine RG.callF (vs := [v33]) rfl rfl En133 rfl (l03Canon_s Rs.o hE (fun v60 => ?_))
      refine RG.pv rfl (PV.asg (v := v60) rfl rfl) ?_
      refine RG.nil ?_
      refine WP.ret ?_
      have e : betwL xs ys w = canon E := by
        rw [betwL, if_pos (by rw [h4.1, h4.2.1, h4.2.2]; rfl), celL_eq (P := fun y x => Nigh (bits xs) (bits ys) w y x ∨ (gb (bits xs) y x = true ∧ gb (bits ys) y x = true)) hE (fun y x hy hx => by
          have := hE1 (y * 80 + x) (by omega)
          rw [← near_iff houtv31, ← hgv33 y x hy hx]
          unfold gb; rw [this]; simp)]
      rw [e] at k
      exact ⟨_, _, ResV.one rfl rfl, Cv.p, k v60⟩
end Go.Proofs.YtgngpegmaceaiaaGreat
namespace Go.Proofs.YtgngpegmaceaiaaGreat
set_option linter.unusedVariables false
set_option linter.unusedSimpArgs false
open Go
set_option maxRecDepth 20000
set_option linter.unusedSimpArgs false
variable {G : Gh} {L : List Ch} {R : Value → Gh → List Ch → Prop}
theorem vnil : validRs [] = true := by simp [validRs]
theorem near_w {v : Value} {S : List Bool} {c : Int} (h1 : Rs G L boolT v S) (hS : S.length = 6400) (hc : 0 ≤ c ∧ c ≤ 8) (k : ∀ v' D, D.length = 6400 → R v' G (osl 4 boolT v' D :: L)) : CallT Tryz.prog 171 #[v, vi c] G L R := by
  refine CallT.enter (args := _) Tryz.func171 rfl rfl (by kernel_rfl) rfl ?_
  refine WP.seq ?_
  refine WP.region ?_
  refine RG.pv rfl (PV.asg rfl rfl) ?_
  refine RG.nil ?_
  refine WP.seq ?_
  refine WP.region ?_
  refine RG.pv rfl (PV.move (v := v) rfl rfl) ?_
  refine RG.pv rfl (PV.len (v := v) rfl Tryz.underlying149 rfl (SlF.r h1)) ?_
  refine RG.ot rfl (OT.make (F := boolT) (a0 := false) rfl El149 rfl (by decide) rfl rfl (by omega) (by omega) fun v15 => ?_)
  refine RG.pv rfl (PV.asg (v := v15) rfl rfl) ?_
  refine RG.nil ?_
  refine WP.seq ?_
  refine WP.region ?_
  refine RG.pv rfl (PV.move (v := v) rfl rfl) ?_
  refine RG.pv rfl (PV.len (v := v) rfl Tryz.underlying149 rfl (SlF.r h1)) ?_
  refine RG.ot rfl (OT.make (F := boolT) (a0 := false) rfl El149 rfl (by decide) rfl rfl (by omega) (by omega) fun v18 => ?_)
  refine RG.pv rfl (PV.asg (v := v18) rfl rfl) ?_
  refine RG.nil ?_
  refine WP.seq ?_
  refine WP.seq ?_
  refine WP.region ?_
  refine RG.pv rfl (PV.mvI (.inr rfl) rfl) ?_
  refine RG.nil ?_
  refine WP.block ?_
  refine WP.loop2 [0, 1, 5, 6] (fun (y : Int) (W : List Bool) => (-40 ≤ y ∧ y ≤ 40) ∧ W.length = 6400) (fun (y : Int) (W : List Bool) => [(7, vi y)]) (fun (y : Int) (W : List Bool) => osl 4 boolT v15 W :: osl 4 boolT v18 (List.replicate S.length false) :: L) (fun (y : Int) (W : List Bool) => (40 - y).toNat) (-40) (List.replicate S.length false) ⟨by omega, by simp [hS]⟩ ⟨rfl, trivial⟩ Cv.p ?_
  rintro y W τ ⟨hy, hW⟩
  refine WP.seq ?_
  refine WP.seq ?_
  refine WP.region ?_
  refine RG.pv rfl (PV.mvI (.inl rfl) rfl) ?_
  refine RG.pv rfl (PV.lss rfl rfl rfl) ?_
  refine RG.nil ?_
  refine WP.cond rfl (fun h2 => ?_) (fun h2 => ?_)
  · have h2 := of_decide_eq_true h2
    refine WP.skip ?_
    refine WP.seq ?_
    refine WP.block ?_
    refine WP.seq ?_
    refine WP.region ?_
    refine RG.pv rfl (PV.mvI (.inr rfl) rfl) ?_
    refine RG.nil ?_
    refine WP.block ?_
    refine WP.loop2 [0, 1, 5, 6, 7] (fun (x : Int) (W1 : List Bool) => (-40 ≤ x ∧ x ≤ 40) ∧ W1.length = 6400) (fun (x : Int) (W1 : List Bool) => [(8, vi x)]) (fun (x : Int) (W1 : List Bool) => osl 4 boolT v15 W1 :: osl 4 boolT v18 (List.replicate S.length false) :: L) (fun (x : Int) (W1 : List Bool) => (40 - x).toNat) (-40) W ⟨by omega, hW⟩ ⟨rfl, trivial⟩ Cv.p ?_
    rintro x W1 τ1 ⟨hx, hW1⟩
    refine WP.seq ?_
    refine WP.seq ?_
    refine WP.region ?_
    refine RG.pv rfl (PV.mvI (.inl rfl) rfl) ?_
    refine RG.pv rfl (PV.lss rfl rfl rfl) ?_
    refine RG.nil ?_
    refine WP.cond rfl (fun h3 => ?_) (fun h3 => ?_)
    · have h3 := of_decide_eq_true h3
      refine WP.skip ?_
      refine WP.seq ?_
      refine WP.block ?_
      refine WP.seq ?_
      refine WP.region ?_
      refine RG.pv rfl (PV.mvI (.inl rfl) rfl) ?_
      refine RG.pv rfl (PV.neg rfl rfl (by omega)) ?_
      refine RG.pv rfl (PV.mvI (.inr rfl) rfl) ?_
      refine RG.nil ?_
      refine WP.block ?_
      refine WP.loop2 [0, 1, 5, 6, 7, 8] (fun (d : Int) (W2 : List Bool) => (-c ≤ d ∧ d ≤ c + 1) ∧ W2.length = 6400) (fun (d : Int) (W2 : List Bool) => [(9, vi d)]) (fun (d : Int) (W2 : List Bool) => osl 4 boolT v15 W2 :: osl 4 boolT v18 (List.replicate S.length false) :: L) (fun (d : Int) (W2 : List Bool) => (c + 1 - d).toNat) (-c) W1 ⟨by omega, hW1⟩ ⟨rfl, trivial⟩ Cv.p ?_
      rintro d W2 τ2 ⟨hd, hW2⟩
      refine WP.seq ?_
      refine WP.seq ?_
      refine WP.region ?_
      refine RG.pv rfl (PV.mvI (.inl rfl) rfl) ?_
      refine RG.pv rfl (PV.mvI (.inl rfl) rfl) ?_
      refine RG.pv rfl (PV.leq rfl rfl rfl) ?_
      refine RG.pv rfl (PV.mvB (.inl rfl) rfl) ?_
      refine RG.gs rfl rfl rfl (fun hp => (PV.move (v := v) rfl rfl)) ?_
      refine RG.gs rfl rfl rfl (fun hp => (PV.mvI (.inl rfl) rfl)) ?_
      refine RG.gs rfl rfl rfl (fun hp => (PV.mvI (.inl rfl) rfl)) ?_
      refine RG.gsC rfl rfl rfl rfl En217 (fun hp => ⟨_, (acons (gs_t hp) (acons (gs_t hp) anil)), l17At_s (by first | omega | (simp at hp; omega)) (by first | omega | (simp at hp; omega)) ⟨rfl, rfl, rfl⟩⟩) ?_
      refine RG.gs rfl rfl rfl (fun hp => (PV.idxS (j := ((y + 40) * 80 + x + 40).toNat) (v := v) rfl Is149 (gs_t hp) (SlF.r h1) (gs_t hp) (by first | omega | (simp at hp; omega)) (by first | omega | (simp at hp; omega)))) ?_
      refine RG.gs rfl rfl rfl (fun hp => (PV.loadE1 rfl Sc4 (gs_t hp) rfl (El.r h1 (getG (by first | omega | (simp at hp; omega)))) rfl)) ?_
      refine RG.pv rfl (PV.pickA rfl rfl (fun hq => gs_t (geqT hq)) rfl) ?_
      refine RG.nil ?_
      refine WP.cond rfl (fun h4 => ?_) (fun h4 => ?_)
      · have h4 : d ≤ c := by simp at h4; omega
        refine WP.skip ?_
        refine WP.seq ?_
        refine WP.block ?_
        refine WP.seq ?_
        refine WP.region ?_
        refine RG.pv rfl (PV.mvI (.inl rfl) rfl) ?_
        refine RG.pv rfl (PV.mvI (.inl rfl) rfl) ?_
        refine RG.pv rfl (PV.add rfl rfl rfl (by omega)) ?_
        refine RG.pv rfl (PV.mvI (.inl rfl) rfl) ?_
        refine RG.callF (vs := [_, _]) rfl rfl En218 rfl (l17Inside_s ?_)
        refine RG.nil ?_
        refine WP.cond rfl (fun h5 => ?_) (fun h5 => ?_)
        · have h5 : (-40 ≤ x + d ∧ x + d < 40) ∧ -40 ≤ y ∧ y < 40 := by simpa using h5
          refine WP.region ?_
          refine RG.pv rfl (PV.move (v := v15) rfl rfl) ?_
          refine RG.pv rfl (PV.mvI (.inl rfl) rfl) ?_
          refine RG.pv rfl (PV.mvI (.inl rfl) rfl) ?_
          refine RG.pv rfl (PV.add rfl rfl rfl (by omega)) ?_
          refine RG.pv rfl (PV.mvI (.inl rfl) rfl) ?_
          refine RG.callF (vs := [_, _]) rfl rfl En217 rfl (l17At_s (by first | omega | (simp at hp; omega)) (by first | omega | (simp at hp; omega)) ?_)
          refine RG.pv rfl (PV.idxS (j := ((y + 40) * 80 + (x + d) + 40).toNat) (v := v15) rfl Is149 rfl SlF.o rfl (by first | omega | (simp only [List.length_set]; omega)) (by first | omega | (simp only [List.length_set]; omega))) ?_
          refine RG.ot rfl (OT.storeE (F := boolT) rfl Sz4 rfl rfl rfl (Cl.c rfl) (OneC.c rfl) (by first | omega | (simp only [List.length_set]; omega)) ?_)
          refine RG.nil ?_
          refine WP.region ?_
          refine RG.pv rfl (PV.mvI (.inl rfl) rfl) ?_
          refine RG.pv rfl (PV.add rfl rfl rfl (by omega)) ?_
          refine RG.pv rfl (PV.mvI (.inr rfl) rfl) ?_
          refine RG.nil ?_
          exact ⟨rfl, d + 1, (W2.set ((y + 40) * 80 + (x + d) + 40).toNat true), ⟨by omega, by simpa using hW2⟩, ⟨rfl, trivial⟩, ⟨rfl, rfl, rfl, rfl, rfl, rfl, trivial⟩, Cv.p, by omega⟩
        · refine WP.skip ?_
          refine WP.region ?_
          refine RG.pv rfl (PV.mvI (.inl rfl) rfl) ?_
          refine RG.pv rfl (PV.add rfl rfl rfl (by omega)) ?_
          refine RG.pv rfl (PV.mvI (.inr rfl) rfl) ?_
          refine RG.nil ?_
          exact ⟨rfl, d + 1, W2, ⟨by omega, hW2⟩, ⟨rfl, trivial⟩, ⟨rfl, rfl, rfl, rfl, rfl, rfl, trivial⟩, Cv.p, by omega⟩
      · refine WP.exit ?_
        refine WP.region ?_
        refine RG.pv rfl (PV.mvI (.inl rfl) rfl) ?_
        refine RG.pv rfl (PV.add rfl rfl rfl (by omega)) ?_
        refine RG.pv rfl (PV.mvI (.inr rfl) rfl) ?_
        refine RG.nil ?_
        exact ⟨rfl, x + 1, W2, ⟨by omega, hW2⟩, ⟨rfl, trivial⟩, ⟨rfl, rfl, rfl, rfl, rfl, trivial⟩, Cv.p, by omega⟩
    · refine WP.exit ?_
      refine WP.region ?_
      refine RG.pv rfl (PV.mvI (.inl rfl) rfl) ?_
      refine RG.pv rfl (PV.add rfl rfl rfl (by omega)) ?_
      refine RG.pv rfl (PV.mvI (.inr rfl) rfl) ?_
      refine RG.nil ?_
      exact ⟨rfl, y + 1, W1, ⟨by omega, hW1⟩, ⟨rfl, trivial⟩, ⟨rfl, rfl, rfl, rfl, trivial⟩, Cv.p, by omega⟩
  · refine WP.exit ?_
    refine WP.seq ?_
    refine WP.seq ?_
    refine WP.region ?_
    refine RG.pv rfl (PV.mvI (.inr rfl) rfl) ?_
    refine RG.nil ?_
    refine WP.block ?_
    refine WP.loop2 [1, 5, 6] (fun (y : Int) (E : List Bool) => (-40 ≤ y ∧ y ≤ 40) ∧ E.length = 6400) (fun (y : Int) (E : List Bool) => [(10, vi y)]) (fun (y : Int) (E : List Bool) => osl 4 boolT v15 W :: osl 4 boolT v18 E :: L) (fun (y : Int) (E : List Bool) => (40 - y).toNat) (-40) (List.replicate S.length false) ⟨by omega, by simp [hS]⟩ ⟨rfl, trivial⟩ Cv.p ?_
    rintro y E τ3 ⟨hy2, hE⟩
    refine WP.seq ?_
    refine WP.seq ?_
    refine WP.region ?_
    refine RG.pv rfl (PV.mvI (.inl rfl) rfl) ?_
    refine RG.pv rfl (PV.lss rfl rfl rfl) ?_
    refine RG.nil ?_
    refine WP.cond rfl (fun h2 => ?_) (fun h2 => ?_)
    · have h2 := of_decide_eq_true h2
      refine WP.skip ?_
      refine WP.seq ?_
      refine WP.block ?_
      refine WP.seq ?_
      refine WP.region ?_
      refine RG.pv rfl (PV.mvI (.inr rfl) rfl) ?_
      refine RG.nil ?_
      refine WP.block ?_
      refine WP.loop2 [1, 5, 6, 10] (fun (x : Int) (E1 : List Bool) => (-40 ≤ x ∧ x ≤ 40) ∧ E1.length = 6400) (fun (x : Int) (E1 : List Bool) => [(11, vi x)]) (fun (x : Int) (E1 : List Bool) => osl 4 boolT v15 W :: osl 4 boolT v18 E1 :: L) (fun (x : Int) (E1 : List Bool) => (40 - x).toNat) (-40) E ⟨by omega, hE⟩ ⟨rfl, trivial⟩ Cv.p ?_
      rintro x E1 τ1 ⟨hx, hE1⟩
      refine WP.seq ?_
      refine WP.seq ?_
      refine WP.region ?_
      refine RG.pv rfl (PV.mvI (.inl rfl) rfl) ?_
      refine RG.pv rfl (PV.lss rfl rfl rfl) ?_
      refine RG.nil ?_
      refine WP.cond rfl (fun h3 => ?_) (fun h3 => ?_)
      · have h3 := of_decide_eq_true h3
        refine WP.skip ?_
        refine WP.seq ?_
        refine WP.block ?_
        refine WP.seq ?_
        refine WP.region ?_
        refine RG.pv rfl (PV.mvI (.inl rfl) rfl) ?_
        refine RG.pv rfl (PV.neg rfl rfl (by omega)) ?_
        refine RG.pv rfl (PV.mvI (.inr rfl) rfl) ?_
        refine RG.nil ?_
        refine WP.block ?_
        refine WP.loop2 [1, 5, 6, 10, 11] (fun (d : Int) (E2 : List Bool) => (-c ≤ d ∧ d ≤ c + 1) ∧ E2.length = 6400) (fun (d : Int) (E2 : List Bool) => [(12, vi d)]) (fun (d : Int) (E2 : List Bool) => osl 4 boolT v15 W :: osl 4 boolT v18 E2 :: L) (fun (d : Int) (E2 : List Bool) => (c + 1 - d).toNat) (-c) E1 ⟨by omega, hE1⟩ ⟨rfl, trivial⟩ Cv.p ?_
        rintro d E2 τ2 ⟨hd, hE2⟩
        refine WP.seq ?_
        refine WP.seq ?_
        refine WP.region ?_
        refine RG.pv rfl (PV.mvI (.inl rfl) rfl) ?_
        refine RG.pv rfl (PV.mvI (.inl rfl) rfl) ?_
        refine RG.pv rfl (PV.leq rfl rfl rfl) ?_
        refine RG.pv rfl (PV.mvB (.inl rfl) rfl) ?_
        refine RG.gs rfl rfl rfl (fun hp => (PV.move (v := v15) rfl rfl)) ?_
        refine RG.gs rfl rfl rfl (fun hp => (PV.mvI (.inl rfl) rfl)) ?_
        refine RG.gs rfl rfl rfl (fun hp => (PV.mvI (.inl rfl) rfl)) ?_
        refine RG.gsC rfl rfl rfl rfl En217 (fun hp => ⟨_, (acons (gs_t hp) (acons (gs_t hp) anil)), l17At_s (by first | omega | (simp at hp; omega)) (by first | omega | (simp at hp; omega)) ⟨rfl, rfl, rfl⟩⟩) ?_
        refine RG.gs rfl rfl rfl (fun hp => (PV.idxS (j := ((y + 40) * 80 + x + 40).toNat) (v := v15) rfl Is149 (gs_t hp) SlF.o (gs_t hp) (by first | omega | (simp at hp; omega)) (by first | omega | (simp at hp; omega)))) ?_
        refine RG.gs rfl rfl rfl (fun hp => (PV.loadE1 rfl Sc4 (gs_t hp) rfl (El.o (getG (by first | omega | (simp at hp; omega)))) rfl)) ?_
        refine RG.pv rfl (PV.pickA rfl rfl (fun hq => gs_t (geqT hq)) rfl) ?_
        refine RG.nil ?_
        refine WP.cond rfl (fun h4 => ?_) (fun h4 => ?_)
        · have h4 : d ≤ c := by simp at h4; omega
          refine WP.skip ?_
          refine WP.seq ?_
          refine WP.block ?_
          refine WP.seq ?_
          refine WP.region ?_
          refine RG.pv rfl (PV.mvI (.inl rfl) rfl) ?_
          refine RG.pv rfl (PV.mvI (.inl rfl) rfl) ?_
          refine RG.pv rfl (PV.mvI (.inl rfl) rfl) ?_
          refine RG.pv rfl (PV.add rfl rfl rfl (by omega)) ?_
          refine RG.callF (vs := [_, _]) rfl rfl En218 rfl (l17Inside_s ?_)
          refine RG.nil ?_
          refine WP.cond rfl (fun h5 => ?_) (fun h5 => ?_)
          · have h5 : (-40 ≤ x ∧ x < 40) ∧ -40 ≤ y + d ∧ y + d < 40 := by simpa using h5
            refine WP.region ?_
            refine RG.pv rfl (PV.move (v := v18) rfl rfl) ?_
            refine RG.pv rfl (PV.mvI (.inl rfl) rfl) ?_
            refine RG.pv rfl (PV.mvI (.inl rfl) rfl) ?_
            refine RG.pv rfl (PV.mvI (.inl rfl) rfl) ?_
            refine RG.pv rfl (PV.add rfl rfl rfl (by omega)) ?_
            refine RG.callF (vs := [_, _]) rfl rfl En217 rfl (l17At_s (by first | omega | (simp at hp; omega)) (by first | omega | (simp at hp; omega)) ?_)
            refine RG.pv rfl (PV.idxS (j := ((y + d + 40) * 80 + x + 40).toNat) (v := v18) rfl Is149 rfl SlF.o rfl (by first | omega | (simp only [List.length_set]; omega)) (by first | omega | (simp only [List.length_set]; omega))) ?_
            refine RG.ot rfl (OT.storeE (F := boolT) rfl Sz4 rfl rfl rfl (Cl.c rfl) (OneC.c rfl) (by first | omega | (simp only [List.length_set]; omega)) ?_)
            refine RG.nil ?_
            refine WP.region ?_
            refine RG.pv rfl (PV.mvI (.inl rfl) rfl) ?_
            refine RG.pv rfl (PV.add rfl rfl rfl (by omega)) ?_
            refine RG.pv rfl (PV.mvI (.inr rfl) rfl) ?_
            refine RG.nil ?_
            exact ⟨rfl, d + 1, (E2.set ((y + d + 40) * 80 + x + 40).toNat true), ⟨by omega, by simpa using hE2⟩, ⟨rfl, trivial⟩, ⟨rfl, rfl, rfl, rfl, rfl, trivial⟩, Cv.p, by omega⟩
          · refine WP.skip ?_
            refine WP.region ?_
            refine RG.pv rfl (PV.mvI (.inl rfl) rfl) ?_
            refine RG.pv rfl (PV.add rfl rfl rfl (by omega)) ?_
            refine RG.pv rfl (PV.mvI (.inr rfl) rfl) ?_
            refine RG.nil ?_
            exact ⟨rfl, d + 1, E2, ⟨by omega, hE2⟩, ⟨rfl, trivial⟩, ⟨rfl, rfl, rfl, rfl, rfl, trivial⟩, Cv.p, by omega⟩
        · refine WP.exit ?_
          refine WP.region ?_
          refine RG.pv rfl (PV.mvI (.inl rfl) rfl) ?_
          refine RG.pv rfl (PV.add rfl rfl rfl (by omega)) ?_
          refine RG.pv rfl (PV.mvI (.inr rfl) rfl) ?_
          refine RG.nil ?_
          exact ⟨rfl, x + 1, E2, ⟨by omega, hE2⟩, ⟨rfl, trivial⟩, ⟨rfl, rfl, rfl, rfl, trivial⟩, Cv.p, by omega⟩
      · refine WP.exit ?_
        refine WP.region ?_
        refine RG.pv rfl (PV.mvI (.inl rfl) rfl) ?_
        refine RG.pv rfl (PV.add rfl rfl rfl (by omega)) ?_
        refine RG.pv rfl (PV.mvI (.inr rfl) rfl) ?_
        refine RG.nil ?_
        exact ⟨rfl, y + 1, E1, ⟨by omega, hE1⟩, ⟨rfl, trivial⟩, ⟨rfl, rfl, rfl, trivial⟩, Cv.p, by omega⟩
    · refine WP.exit ?_
      refine WP.seq ?_
      refine WP.region ?_
      refine RG.pv rfl (PV.move (v := v18) rfl rfl) ?_
      refine RG.pv rfl (PV.asg (v := v18) rfl rfl) ?_
      refine RG.nil ?_
      refine WP.ret ?_
      exact ⟨_, _, ResV.one rfl rfl, Cv.p, k v18 E hE⟩
theorem markEncl_w {u v : Value} {xs ys : List Rect} {w : Int} (h1 : Rs G L rectT u xs) (h2 : Rs G L rectT v ys) (k : ∀ v' zs, validRs zs = true → R v' G (osl 101 rectT v' zs :: L)) : CallT Tryz.prog 117 #[u, v, vi w] G L R := by
  refine CallT.enter (args := _) Tryz.func117 rfl rfl (by kernel_rfl) rfl ?_
  refine WP.seq ?_
  refine WP.region ?_
  refine RG.pv rfl (PV.asg rfl rfl) ?_
  refine RG.nil ?_
  refine WP.seq ?_
  refine WP.seq ?_
  refine WP.region ?_
  refine RG.pv rfl (PV.move (v := u) rfl rfl) ?_
  refine RG.callF (vs := [u]) rfl rfl En68 rfl (l03Ok_s (Rs.up h1) ?_)
  refine RG.pv rfl (PV.not rfl rfl) ?_
  refine RG.pv rfl (PV.mvB (.inl rfl) rfl) ?_
  refine RG.gs rfl rfl rfl (fun hp => (PV.move (v := v) rfl rfl)) ?_
  refine RG.gsC rfl rfl rfl rfl En68 (fun hp => ⟨_, (acons (gs_t hp) anil), l03Ok_s (Rs.up h2) ⟨rfl, rfl, rfl⟩⟩) ?_
  refine RG.gs rfl rfl rfl (fun hp => (PV.not rfl (gs_t hp))) ?_
  refine RG.pv rfl (PV.pickO rfl rfl rfl (fun hq => gs_t (geqF hq))) ?_
  refine RG.pv rfl (PV.mvB (.inl rfl) rfl) ?_
  refine RG.gs rfl rfl rfl (fun hp => (PV.mvI (.inl rfl) rfl)) ?_
  refine RG.gs rfl rfl rfl (fun hp => (PV.lss rfl (gs_t hp) rfl)) ?_
  refine RG.pv rfl (PV.pickO rfl rfl rfl (fun hq => gs_t (geqF hq))) ?_
  refine RG.pv rfl (PV.mvB (.inl rfl) rfl) ?_
  refine RG.gs rfl rfl rfl (fun hp => (PV.mvI (.inl rfl) rfl)) ?_
  refine RG.gs rfl rfl rfl (fun hp => (PV.gtr rfl (gs_t hp) rfl)) ?_
  refine RG.pv rfl (PV.pickO rfl rfl rfl (fun hq => gs_t (geqF hq))) ?_
  refine RG.nil ?_
  refine WP.cond rfl (fun h3 => ?_) (fun h3 => ?_)
  · refine WP.seq ?_
    refine WP.region ?_
    refine RG.ot rfl (OT.bslice (F := rectT) (els := []) rfl El35 rfl (by decide) rfl (by decide) trivial fun v26 => ?_)
    refine RG.pv rfl (PV.asg (v := v26) rfl rfl) ?_
    refine RG.nil ?_
    refine WP.ret ?_
    exact ⟨_, _, ResV.one rfl rfl, Cv.p, k v26 [] vnil⟩
  · have h4 : isReg xs = true ∧ isReg ys = true ∧ 0 ≤ w ∧ w ≤ 8 := by
      cases g1 : isReg xs <;> cases g2 : isReg ys <;> simp_all
    have hreg := h4.1
    have hregy := h4.2.1
    have hwb := h4.2.2
    refine WP.skip ?_
    refine WP.seq ?_
    refine WP.region ?_
    refine RG.pv rfl (PV.move (v := u) rfl rfl) ?_
    refine RG.callF (vs := [u]) rfl rfl En134 rfl (l03Bits_s (Rs.up h1) (fun i hi => valid_get (isReg_valid hreg) hi) (fun v28 => ?_))
    refine RG.pv rfl (PV.mvI (.inl rfl) rfl) ?_
    refine RG.callF (vs := [v28, _]) rfl rfl En171 rfl (near_w Rs.o (bits_length _) (by omega) (fun v30 Dv30 hDv30 => ?_))
    refine RG.pv rfl (PV.asg (v := v30) rfl rfl) ?_
    refine RG.nil ?_
    refine WP.seq ?_
    refine WP.region ?_
    refine RG.pv rfl (PV.move (v := v) rfl rfl) ?_
    refine RG.callF (vs := [v]) rfl rfl En134 rfl (l03Bits_s (Rs.up h2) (fun i hi => valid_get (isReg_valid hregy) hi) (fun v32 => ?_))
    refine RG.pv rfl (PV.asg (v := v32) rfl rfl) ?_
    refine RG.nil ?_
    refine WP.seq ?_
    refine WP.seq ?_
    refine WP.region ?_
    refine RG.pv rfl (PV.mvI (.inr rfl) rfl) ?_
    refine RG.nil ?_
    refine WP.block ?_
    have hby := bits_length ys
    refine WP.loop2 [7, 8] (fun (i : Nat) (E : List Bool) => i ≤ 6400 ∧ E.length = 6400) (fun (i : Nat) (E : List Bool) => [(9, vi i)]) (fun (i : Nat) (E : List Bool) => osl 4 boolT v30 E :: osl 4 boolT v32 (bits ys) :: L) (fun (i : Nat) (E : List Bool) => 6400 - i) 0 Dv30 ⟨by omega, hDv30⟩ ⟨rfl, trivial⟩ Cv.p ?_
    rintro i E τ ⟨hi, hE⟩
    refine WP.seq ?_
    refine WP.seq ?_
    refine WP.region ?_
    refine RG.pv rfl (PV.mvI (.inl rfl) rfl) ?_
    refine RG.pv rfl (PV.move (v := v30) rfl rfl) ?_
    refine RG.pv rfl (PV.len (v := v30) rfl Tryz.underlying149 rfl SlF.o) ?_
    refine RG.pv rfl (PV.lss rfl rfl rfl) ?_
    refine RG.nil ?_
    refine WP.cond rfl (fun h5 => ?_) (fun h5 => ?_)
    · have h5 := of_decide_eq_true h5
      refine WP.skip ?_
      refine WP.seq ?_
      refine WP.block ?_
      refine WP.region ?_
      refine RG.pv rfl (PV.move (v := v30) rfl rfl) ?_
      refine RG.pv rfl (PV.mvI (.inl rfl) rfl) ?_
      refine RG.pv rfl (PV.move (v := v30) rfl rfl) ?_
      refine RG.pv rfl (PV.mvI (.inl rfl) rfl) ?_
      refine RG.pv rfl (PV.idxS (v := v30) rfl Is149 rfl SlF.o rfl rfl (by omega)) ?_
      refine RG.pv rfl (PV.loadE1 rfl Sc4 rfl rfl (El.o (getG (by omega))) rfl) ?_
      refine RG.pv rfl (PV.mvB (.inl rfl) rfl) ?_
      refine RG.gs rfl rfl rfl (fun hp => (PV.move (v := v32) rfl rfl)) ?_
      refine RG.gs rfl rfl rfl (fun hp => (PV.mvI (.inl rfl) rfl)) ?_
      refine RG.gs rfl rfl rfl (fun hp => (PV.idxS (v := v32) rfl Is149 (gs_t hp) SlF.o (gs_t hp) rfl (by first | omega | (simp at hp; omega)))) ?_
      refine RG.gs rfl rfl rfl (fun hp => (PV.loadE1 rfl Sc4 (gs_t hp) rfl (El.o (getG (by first | omega | (simp at hp; omega)))) rfl)) ?_
      refine RG.gs rfl rfl rfl (fun hp => (PV.not rfl (gs_t hp))) ?_
      refine RG.pv rfl (PV.pickA rfl rfl (fun hq => gs_t (geqT hq)) rfl) ?_
      refine RG.pv rfl (PV.idxS (v := v30) rfl Is149 rfl SlF.o rfl rfl (by omega)) ?_
      refine RG.ot rfl (OT.storeE (F := boolT) rfl Sz4 rfl rfl rfl (Cl.c rfl) (OneC.c rfl) (by omega) ?_)
      refine RG.nil ?_
      refine WP.region ?_
      refine RG.pv rfl (PV.mvI (.inl rfl) rfl) ?_
      refine RG.pv rfl (PV.add rfl rfl rfl (by omega)) ?_
      refine RG.pv rfl (PV.mvI (.inr rfl) rfl) ?_
      refine RG.nil ?_
      exact ⟨rfl, i + 1, (E.set i (gd E i && !gd (bits ys) i)), ⟨by omega, by simpa using hE⟩, ⟨rfl, trivial⟩, ⟨rfl, rfl, trivial⟩, Cv.p, by omega⟩
    · refine WP.exit ?_
      refine WP.seq ?_
      refine WP.region ?_
      refine RG.pv rfl (PV.move (v := v30) rfl rfl) ?_
      refine RG.callF (vs := [v30]) rfl rfl En133 rfl (l03Canon_s Rs.o hE (fun v54 => ?_))
      refine RG.pv rfl (PV.asg (v := v54) rfl rfl) ?_
      refine RG.nil ?_
      refine WP.ret ?_
      exact ⟨_, _, ResV.one rfl rfl, Cv.p, k v54 _ (isReg_valid (isReg_canon hE))⟩
theorem or_w {u v : Value} {A B : List Bool} (h1 : Rs G L boolT u A) (h2 : Rs G L boolT v B) (hA : A.length = 6400) (hB : B.length = 6400) (k : ∀ v' D, D.length = 6400 → R v' G (osl 4 boolT v' D :: L)) : CallT Tryz.prog 174 #[u, v] G L R := by
  refine CallT.enter (args := _) Tryz.func174 rfl rfl (by kernel_rfl) rfl ?_
  refine WP.seq ?_
  refine WP.region ?_
  refine RG.pv rfl (PV.asg rfl rfl) ?_
  refine RG.nil ?_
  refine WP.seq ?_
  refine WP.region ?_
  refine RG.pv rfl (PV.move (v := u) rfl rfl) ?_
  refine RG.pv rfl (PV.len (v := u) rfl Tryz.underlying149 rfl (SlF.r h1)) ?_
  refine RG.ot rfl (OT.make (F := boolT) (a0 := false) rfl El149 rfl (by decide) rfl rfl (by omega) (by omega) fun v9 => ?_)
  refine RG.pv rfl (PV.asg (v := v9) rfl rfl) ?_
  refine RG.nil ?_
  refine WP.seq ?_
  refine WP.seq ?_
  refine WP.region ?_
  refine RG.pv rfl (PV.mvI (.inr rfl) rfl) ?_
  refine RG.nil ?_
  refine WP.block ?_
  refine WP.loop2 [0, 1, 5] (fun (i : Nat) (E : List Bool) => i ≤ 6400 ∧ E.length = 6400) (fun (i : Nat) (E : List Bool) => [(6, vi i)]) (fun (i : Nat) (E : List Bool) => osl 4 boolT v9 E :: L) (fun (i : Nat) (E : List Bool) => 6400 - i) 0 (List.replicate A.length false) ⟨by omega, by simp [hA]⟩ ⟨rfl, trivial⟩ Cv.p ?_
  rintro i E τ ⟨hi, hE⟩
  refine WP.seq ?_
  refine WP.seq ?_
  refine WP.region ?_
  refine RG.pv rfl (PV.mvI (.inl rfl) rfl) ?_
  refine RG.pv rfl (PV.move (v := u) rfl rfl) ?_
  refine RG.pv rfl (PV.len (v := u) rfl Tryz.underlying149 rfl (SlF.r h1)) ?_
  refine RG.pv rfl (PV.lss rfl rfl rfl) ?_
  refine RG.nil ?_
  refine WP.cond rfl (fun h5 => ?_) (fun h5 => ?_)
  · have h5 := of_decide_eq_true h5
    refine WP.skip ?_
    refine WP.seq ?_
    refine WP.block ?_
    refine WP.region ?_
    refine RG.pv rfl (PV.move (v := v9) rfl rfl) ?_
    refine RG.pv rfl (PV.mvI (.inl rfl) rfl) ?_
    refine RG.pv rfl (PV.move (v := u) rfl rfl) ?_
    refine RG.pv rfl (PV.mvI (.inl rfl) rfl) ?_
    refine RG.pv rfl (PV.idxS (v := u) rfl Is149 rfl (SlF.r h1) rfl rfl (by omega)) ?_
    refine RG.pv rfl (PV.loadE1 rfl Sc4 rfl rfl (El.r h1 (getG (by omega))) rfl) ?_
    refine RG.pv rfl (PV.mvB (.inl rfl) rfl) ?_
    refine RG.gs rfl rfl rfl (fun hp => (PV.move (v := v) rfl rfl)) ?_
    refine RG.gs rfl rfl rfl (fun hp => (PV.mvI (.inl rfl) rfl)) ?_
    refine RG.gs rfl rfl rfl (fun hp => (PV.idxS (v := v) rfl Is149 (gs_t hp) (SlF.r h2) (gs_t hp) rfl (by first | omega | (simp at hp; omega)))) ?_
    refine RG.gs rfl rfl rfl (fun hp => (PV.loadE1 rfl Sc4 (gs_t hp) rfl (El.r h2 (getG (by first | omega | (simp at hp; omega)))) rfl)) ?_
    refine RG.pv rfl (PV.pickO rfl rfl rfl (fun hq => gs_t (geqF hq))) ?_
    refine RG.pv rfl (PV.idxS (v := v9) rfl Is149 rfl SlF.o rfl rfl (by omega)) ?_
    refine RG.ot rfl (OT.storeE (F := boolT) rfl Sz4 rfl rfl rfl (Cl.c rfl) (OneC.c rfl) (by omega) ?_)
    refine RG.nil ?_
    refine WP.region ?_
    refine RG.pv rfl (PV.mvI (.inl rfl) rfl) ?_
    refine RG.pv rfl (PV.add rfl rfl rfl (by omega)) ?_
    refine RG.pv rfl (PV.mvI (.inr rfl) rfl) ?_
    refine RG.nil ?_
    exact ⟨rfl, i + 1, (E.set i (gd A i || gd B i)), ⟨by omega, by simpa using hE⟩, ⟨rfl, trivial⟩, ⟨rfl, rfl, rfl, trivial⟩, Cv.p, by omega⟩
  · refine WP.exit ?_
    refine WP.seq ?_
    refine WP.region ?_
    refine RG.pv rfl (PV.move (v := v9) rfl rfl) ?_
    refine RG.pv rfl (PV.asg (v := v9) rfl rfl) ?_
    refine RG.nil ?_
    refine WP.ret ?_
    exact ⟨_, _, ResV.one rfl rfl, Cv.p, k v9 E hE⟩
theorem cov_w {v : Value} {S : List Bool} {r : Rect} (h1 : Rs G L boolT v S) (hS : S.length = 6400) (hr : validRect r = true) (k : ∀ n : Int, 0 ≤ n ∧ n ≤ 6400 → R (vi n) G L) : CallT Tryz.prog 176 #[v, vrect r] G L R := by
  have hv := validR_iff.1 hr
  refine CallT.enter (args := _) Tryz.func176 rfl rfl (by kernel_rfl) rfl ?_
  refine WP.seq ?_
  refine WP.region ?_
  refine RG.ot rfl (OT.box (cs := rectT.enc r) rfl rfl rfl fun b3 => ?_)
  refine RG.pv rfl (PV.mvI (.inr rfl) rfl) ?_
  refine RG.nil ?_
  refine WP.seq ?_
  refine WP.region ?_
  refine RG.pv rfl (PV.mvI (.inr rfl) rfl) ?_
  refine RG.nil ?_
  refine WP.seq ?_
  refine WP.seq ?_
  refine WP.region ?_
  refine RG.pv rfl (PV.field rfl Fo101_1 rfl) ?_
  refine RG.pv rfl (PV.load1 rfl Sc2 rfl (Rd.blk rfl)) ?_
  refine RG.pv rfl (PV.mvI (.inr rfl) rfl) ?_
  refine RG.nil ?_
  refine WP.block ?_
  refine WP.loop2 [0, 3] (fun (y n : Int) => (r.y0 ≤ y ∧ y ≤ r.y1) ∧ 0 ≤ n ∧ n ≤ (y - r.y0) * 80) (fun (y n : Int) => [(6, vi y), (5, vi n)]) (fun (y n : Int) => blk b3 101 (rectT.enc r) :: L) (fun (y n : Int) => (r.y1 - y).toNat) r.y0 0 ⟨by omega, by omega⟩ ⟨rfl, rfl, trivial⟩ Cv.p ?_
  rintro y n τ ⟨hy, hn⟩
  refine WP.seq ?_
  refine WP.seq ?_
  refine WP.region ?_
  refine RG.pv rfl (PV.mvI (.inl rfl) rfl) ?_
  refine RG.pv rfl (PV.field rfl Fo101_3 rfl) ?_
  refine RG.pv rfl (PV.load1 rfl Sc2 rfl (Rd.blk rfl)) ?_
  refine RG.pv rfl (PV.lss rfl rfl rfl) ?_
  refine RG.nil ?_
  refine WP.cond rfl (fun h2 => ?_) (fun h2 => ?_)
  · have h2 := of_decide_eq_true h2
    refine WP.skip ?_
    refine WP.seq ?_
    refine WP.block ?_
    refine WP.seq ?_
    refine WP.region ?_
    refine RG.pv rfl (PV.field rfl Fo101_0 rfl) ?_
    refine RG.pv rfl (PV.load1 rfl Sc2 rfl (Rd.blk rfl)) ?_
    refine RG.pv rfl (PV.mvI (.inr rfl) rfl) ?_
    refine RG.nil ?_
    refine WP.block ?_
    refine WP.loop2 [0, 3, 6] (fun (x m : Int) => (r.x0 ≤ x ∧ x ≤ r.x1) ∧ 0 ≤ m ∧ m ≤ (y - r.y0) * 80 + (x - r.x0)) (fun (x m : Int) => [(7, vi x), (5, vi m)]) (fun (x m : Int) => blk b3 101 (rectT.enc r) :: L) (fun (x m : Int) => (r.x1 - x).toNat) r.x0 n ⟨by omega, by omega⟩ ⟨rfl, rfl, trivial⟩ Cv.p ?_
    rintro x m τ1 ⟨hx, hm⟩
    refine WP.seq ?_
    refine WP.seq ?_
    refine WP.region ?_
    refine RG.pv rfl (PV.mvI (.inl rfl) rfl) ?_
    refine RG.pv rfl (PV.field rfl Fo101_2 rfl) ?_
    refine RG.pv rfl (PV.load1 rfl Sc2 rfl (Rd.blk rfl)) ?_
    refine RG.pv rfl (PV.lss rfl rfl rfl) ?_
    refine RG.nil ?_
    refine WP.cond rfl (fun h3 => ?_) (fun h3 => ?_)
    · have h3 := of_decide_eq_true h3
      refine WP.skip ?_
      refine WP.seq ?_
      refine WP.block ?_
      refine WP.seq ?_
      refine WP.region ?_
      refine RG.pv rfl (PV.move (v := v) rfl rfl) ?_
      refine RG.pv rfl (PV.mvI (.inl rfl) rfl) ?_
      refine RG.pv rfl (PV.mvI (.inl rfl) rfl) ?_
      refine RG.callF (vs := [_, _]) rfl rfl En217 rfl (l17At_s (by first | omega | (simp at hp; omega)) (by first | omega | (simp at hp; omega)) ?_)
      refine RG.pv rfl (PV.idxS (j := ((y + 40) * 80 + x + 40).toNat) (v := v) rfl Is149 rfl (SlF.r h1) rfl (by first | omega | (simp only [List.length_set]; omega)) (by first | omega | (simp only [List.length_set]; omega))) ?_
      refine RG.pv rfl (PV.loadE1 rfl Sc4 rfl rfl (El.r h1 (getG (by omega))) rfl) ?_
      refine RG.nil ?_
      refine WP.cond rfl (fun h4 => ?_) (fun h4 => ?_)
      · refine WP.region ?_
        refine RG.pv rfl (PV.mvI (.inl rfl) rfl) ?_
        refine RG.pv rfl (PV.add rfl rfl rfl (by omega)) ?_
        refine RG.pv rfl (PV.mvI (.inr rfl) rfl) ?_
        refine RG.nil ?_
        refine WP.region ?_
        refine RG.pv rfl (PV.mvI (.inl rfl) rfl) ?_
        refine RG.pv rfl (PV.add rfl rfl rfl (by omega)) ?_
        refine RG.pv rfl (PV.mvI (.inr rfl) rfl) ?_
        refine RG.nil ?_
        exact ⟨rfl, x + 1, m + 1, ⟨by omega, by omega⟩, ⟨rfl, rfl, trivial⟩, ⟨rfl, rfl, rfl, trivial⟩, Cv.p, by omega⟩
      · refine WP.skip ?_
        refine WP.region ?_
        refine RG.pv rfl (PV.mvI (.inl rfl) rfl) ?_
        refine RG.pv rfl (PV.add rfl rfl rfl (by omega)) ?_
        refine RG.pv rfl (PV.mvI (.inr rfl) rfl) ?_
        refine RG.nil ?_
        exact ⟨rfl, x + 1, m, ⟨by omega, by omega⟩, ⟨rfl, rfl, trivial⟩, ⟨rfl, rfl, rfl, trivial⟩, Cv.p, by omega⟩
    · have h3 := of_decide_eq_false h3
      refine WP.exit ?_
      refine WP.region ?_
      refine RG.pv rfl (PV.mvI (.inl rfl) rfl) ?_
      refine RG.pv rfl (PV.add rfl rfl rfl (by omega)) ?_
      refine RG.pv rfl (PV.mvI (.inr rfl) rfl) ?_
      refine RG.nil ?_
      exact ⟨rfl, y + 1, m, ⟨by omega, by omega⟩, ⟨rfl, rfl, trivial⟩, ⟨rfl, rfl, trivial⟩, Cv.p, by omega⟩
  · refine WP.exit ?_
    refine WP.seq ?_
    refine WP.region ?_
    refine RG.pv rfl (PV.mvI (.inl rfl) rfl) ?_
    refine RG.pv rfl (PV.mvI (.inr rfl) rfl) ?_
    refine RG.nil ?_
    refine WP.ret ?_
    exact ⟨_, _, ResV.one rfl rfl, Cv.p, k n (by omega)⟩
def ValidL (xs : List Rect) : Prop := ∀ r ∈ xs, validRect r = true
theorem ValidL.app {xs : List Rect} {r : Rect} (h : ValidL xs) (hr : validRect r = true) : ValidL (xs ++ [r]) := fun a ha => by
  rcases List.mem_append.1 ha with h1 | h1
  · exact h a h1
  · simp only [List.mem_singleton] at h1; subst h1; exact hr
theorem windows_w {w : Int} (k : ∀ v' zs, ValidL zs → zs.length ≤ 20000 → R v' G (osl 101 rectT v' zs :: L)) : CallT Tryz.prog 175 #[vi w] G L R := by
  refine CallT.enter (args := _) Tryz.func175 rfl rfl (by kernel_rfl) rfl ?_
  refine WP.seq ?_
  refine WP.region ?_
  refine RG.pv rfl (PV.asg rfl rfl) ?_
  refine RG.nil ?_
  refine WP.seq ?_
  refine WP.region ?_
  refine RG.ot rfl (OT.bslice (F := rectT) (els := []) rfl El35 rfl (by decide) rfl (by decide) trivial fun v6 => ?_)
  refine RG.pv rfl (PV.asg (v := v6) rfl rfl) ?_
  refine RG.nil ?_
  refine WP.seq ?_
  refine WP.seq ?_
  refine WP.region ?_
  refine RG.pv rfl (PV.mvI (.inl rfl) rfl) ?_
  refine RG.pv rfl (PV.lss rfl rfl rfl) ?_
  refine RG.pv rfl (PV.mvB (.inl rfl) rfl) ?_
  refine RG.gs rfl rfl rfl (fun hp => (PV.mvI (.inl rfl) rfl)) ?_
  refine RG.gs rfl rfl rfl (fun hp => (PV.gtr rfl (gs_t hp) rfl)) ?_
  refine RG.pv rfl (PV.pickO rfl rfl rfl (fun hq => gs_t (geqF hq))) ?_
  refine RG.nil ?_
  refine WP.cond rfl (fun h2 => ?_) (fun h2 => ?_)
  · refine WP.seq ?_
    refine WP.region ?_
    refine RG.pv rfl (PV.move (v := v6) rfl rfl) ?_
    refine RG.pv rfl (PV.asg (v := v6) rfl rfl) ?_
    refine RG.nil ?_
    refine WP.ret ?_
    exact ⟨_, _, ResV.one rfl rfl, Cv.p, k v6 [] (fun r h => by cases h) (by simp)⟩
  · have h3 : 4 ≤ w ∧ w ≤ 40 := by simp at h2; omega
    refine WP.skip ?_
    refine WP.seq ?_
    refine WP.seq ?_
    refine WP.region ?_
    refine RG.pv rfl (PV.mvI (.inr rfl) rfl) ?_
    refine RG.nil ?_
    refine WP.block ?_
    refine WP.loop3 [0] (fun (y : Int) (zs : List Rect) (q : Value) => (-40 ≤ y ∧ y ≤ 80) ∧ (zs.length : Int) ≤ (y + 40) * 80 ∧ ValidL zs) (fun (y : Int) (zs : List Rect) (q : Value) => [(4, vi y), (3, q)]) (fun (y : Int) (zs : List Rect) (q : Value) => osl 101 rectT q zs :: L) (fun (y : Int) (zs : List Rect) (q : Value) => (80 - y).toNat) (-40) [] v6 ⟨by omega, by simp, fun r h => by cases h⟩ ⟨rfl, rfl, trivial⟩ Cv.p ?_
    rintro y zs q τ ⟨hy, hzl, hz⟩
    refine WP.seq ?_
    refine WP.seq ?_
    refine WP.region ?_
    refine RG.pv rfl (PV.mvI (.inl rfl) rfl) ?_
    refine RG.pv rfl (PV.lss rfl rfl rfl) ?_
    refine RG.nil ?_
    refine WP.cond rfl (fun h4 => ?_) (fun h4 => ?_)
    · have h4 := of_decide_eq_true h4
      refine WP.skip ?_
      refine WP.seq ?_
      refine WP.block ?_
      refine WP.seq ?_
      refine WP.region ?_
      refine RG.pv rfl (PV.mvI (.inr rfl) rfl) ?_
      refine RG.nil ?_
      refine WP.block ?_
      refine WP.loop3 [0, 4] (fun (x : Int) (zs2 : List Rect) (q2 : Value) => (-40 ≤ x ∧ x ≤ 80) ∧ (zs2.length : Int) ≤ (y + 40) * 80 + (x + 40) ∧ ValidL zs2) (fun (x : Int) (zs2 : List Rect) (q2 : Value) => [(5, vi x), (3, q2)]) (fun (x : Int) (zs2 : List Rect) (q2 : Value) => osl 101 rectT q2 zs2 :: L) (fun (x : Int) (zs2 : List Rect) (q2 : Value) => (80 - x).toNat) (-40) zs q ⟨by omega, by omega, hz⟩ ⟨rfl, rfl, trivial⟩ Cv.p ?_
      rintro x zs2 q2 τ1 ⟨hx, hzl2, hz2⟩
      refine WP.seq ?_
      refine WP.seq ?_
      refine WP.region ?_
      refine RG.pv rfl (PV.mvI (.inl rfl) rfl) ?_
      refine RG.pv rfl (PV.lss rfl rfl rfl) ?_
      refine RG.nil ?_
      refine WP.cond rfl (fun h5 => ?_) (fun h5 => ?_)
      · have h5 := of_decide_eq_true h5
        have hvr : validRect ⟨x, y, min (x + w) 40, min (y + w) 40⟩ = true := by rw [validR_iff]; simp only; omega
        refine WP.skip ?_
        refine WP.seq ?_
        refine WP.block ?_
        refine WP.region ?_
        refine RG.pv rfl (PV.move (v := q2) rfl rfl) ?_
        refine RG.pv rfl (PV.mvI (.inl rfl) rfl) ?_
        refine RG.pv rfl (PV.mvI (.inl rfl) rfl) ?_
        refine RG.pv rfl (PV.mvI (.inl rfl) rfl) ?_
        refine RG.pv rfl (PV.mvI (.inl rfl) rfl) ?_
        refine RG.pv rfl (PV.add rfl rfl rfl (by omega)) ?_
        refine RG.pv rfl (PV.min2 rfl rfl rfl) ?_
        refine RG.pv rfl (PV.mvI (.inl rfl) rfl) ?_
        refine RG.pv rfl (PV.mvI (.inl rfl) rfl) ?_
        refine RG.pv rfl (PV.add rfl rfl rfl (by omega)) ?_
        refine RG.pv rfl (PV.min2 rfl rfl rfl) ?_
        refine RG.pv rfl (PV.build (vs := [(0, [vi _]), (1, [vi _]), (2, [vi _]), (3, [vi _])]) (out := [_, _, _, _]) rfl Zr101 Pl101 ⟨rfl, (Cl.c rfl), ⟨rfl, (Cl.c rfl), ⟨rfl, (Cl.c rfl), ⟨rfl, (Cl.c rfl), trivial⟩⟩⟩⟩ rfl) ?_
        refine RG.ot rfl (OT.bslice (F := rectT) (els := [⟨_, _, _, _⟩]) rfl El35 rfl (by decide) rfl (by decide) ⟨rfl, (Cl.c rfl), trivial⟩ fun v36 => ?_)
        refine RG.ot rfl (OT.append (v := q2) (u := v36) (F := rectT) rfl El35 rfl (by decide) rfl rfl Rs.o (OneL.c (fun _ => rfl)) rfl (by first | omega | (simp <;> omega)) fun v37 => ?_)
        refine RG.pv rfl (PV.asg (v := v37) rfl rfl) ?_
        refine RG.nil ?_
        refine WP.region ?_
        refine RG.pv rfl (PV.mvI (.inl rfl) rfl) ?_
        refine RG.pv rfl (PV.mvI (.inl rfl) rfl) ?_
        refine RG.pv rfl (PV.add rfl rfl rfl (by omega)) ?_
        refine RG.pv rfl (PV.mvI (.inr rfl) rfl) ?_
        refine RG.nil ?_
        exact ⟨rfl, x + w, (zs2 ++ [⟨x, y, min (x + w) 40, min (y + w) 40⟩]), v37, ⟨by omega, by simp; omega, hz2.app hvr⟩, ⟨rfl, rfl, trivial⟩, ⟨rfl, rfl, trivial⟩, Cv.p, by omega⟩
      · have h5 := of_decide_eq_false h5
        refine WP.exit ?_
        refine WP.region ?_
        refine RG.pv rfl (PV.mvI (.inl rfl) rfl) ?_
        refine RG.pv rfl (PV.mvI (.inl rfl) rfl) ?_
        refine RG.pv rfl (PV.add rfl rfl rfl (by omega)) ?_
        refine RG.pv rfl (PV.mvI (.inr rfl) rfl) ?_
        refine RG.nil ?_
        exact ⟨rfl, y + w, zs2, q2, ⟨by omega, by omega, hz2⟩, ⟨rfl, rfl, trivial⟩, ⟨rfl, trivial⟩, Cv.p, by omega⟩
    · refine WP.exit ?_
      refine WP.seq ?_
      refine WP.region ?_
      refine RG.pv rfl (PV.move (v := q) rfl rfl) ?_
      refine RG.pv rfl (PV.asg (v := q) rfl rfl) ?_
      refine RG.nil ?_
      refine WP.ret ?_
      exact ⟨_, _, ResV.one rfl rfl, Cv.p, k q zs hz (by omega)⟩
theorem markArea_w {v : Value} {xs : List Rect} {w : Int} (h1 : Rs G L rectT v xs) (k : ∀ v' zs, validRs zs = true → R v' G (osl 101 rectT v' zs :: L)) : CallT Tryz.prog 118 #[v, vi w] G L R := by
  refine CallT.enter (args := _) Tryz.func118 rfl rfl (by kernel_rfl) rfl ?_
  refine WP.seq ?_
  refine WP.region ?_
  refine RG.pv rfl (PV.asg rfl rfl) ?_
  refine RG.nil ?_
  refine WP.seq ?_
  refine WP.seq ?_
  refine WP.region ?_
  refine RG.pv rfl (PV.move (v := v) rfl rfl) ?_
  refine RG.callF (vs := [v]) rfl rfl En68 rfl (l03Ok_s (Rs.up h1) ?_)
  refine RG.pv rfl (PV.not rfl rfl) ?_
  refine RG.pv rfl (PV.mvB (.inl rfl) rfl) ?_
  refine RG.gs rfl rfl rfl (fun hp => (PV.mvI (.inl rfl) rfl)) ?_
  refine RG.gs rfl rfl rfl (fun hp => (PV.lss rfl (gs_t hp) rfl)) ?_
  refine RG.pv rfl (PV.pickO rfl rfl rfl (fun hq => gs_t (geqF hq))) ?_
  refine RG.pv rfl (PV.mvB (.inl rfl) rfl) ?_
  refine RG.gs rfl rfl rfl (fun hp => (PV.mvI (.inl rfl) rfl)) ?_
  refine RG.gs rfl rfl rfl (fun hp => (PV.gtr rfl (gs_t hp) rfl)) ?_
  refine RG.pv rfl (PV.pickO rfl rfl rfl (fun hq => gs_t (geqF hq))) ?_
  refine RG.nil ?_
  refine WP.cond rfl (fun h3 => ?_) (fun h3 => ?_)
  · refine WP.seq ?_
    refine WP.region ?_
    refine RG.ot rfl (OT.bslice (F := rectT) (els := []) rfl El35 rfl (by decide) rfl (by decide) trivial fun v19 => ?_)
    refine RG.pv rfl (PV.asg (v := v19) rfl rfl) ?_
    refine RG.nil ?_
    refine WP.ret ?_
    exact ⟨_, _, ResV.one rfl rfl, Cv.p, k v19 [] vnil⟩
  · have hreg : isReg xs = true := by cases g1 : isReg xs <;> simp_all
    refine WP.skip ?_
    refine WP.seq ?_
    refine WP.region ?_
    refine RG.ot rfl (OT.make (m := 6400) (F := boolT) (a0 := false) rfl El149 rfl (by decide) rfl rfl (by omega) (by omega) fun v20 => ?_)
    refine RG.pv rfl (PV.asg (v := v20) rfl rfl) ?_
    refine RG.nil ?_
    refine WP.seq ?_
    refine WP.region ?_
    refine RG.pv rfl (PV.move (v := v) rfl rfl) ?_
    refine RG.callF (vs := [v]) rfl rfl En134 rfl (l03Bits_s (Rs.up h1) (fun i hi => valid_get (isReg_valid hreg) hi) (fun v22 => ?_))
    refine RG.callF (vs := [v22]) rfl rfl En172 rfl (comps_s Rs.o (bits_length _) (fun v23 zsv23 hev23 => ?_))
    refine RG.pv rfl (PV.asg (v := v23) rfl rfl) ?_
    refine RG.nil ?_
    refine WP.seq ?_
    refine WP.seq ?_
    refine WP.region ?_
    refine RG.pv rfl (PV.mvI (.inr rfl) rfl) ?_
    refine RG.nil ?_
    refine WP.block ?_
    have hzl : zsv23.length ≤ 6400 := by have := congrArg List.length hev23; rw [er_len] at this; rw [this]; exact comps_len _
    have hl6 : ∀ i, i < zsv23.length → (gd zsv23 i).xs.length = 6400 := fun i hi => by
      rw [← er_gd, hev23]
      have : i < (comps (bits xs)).length := by rw [← hev23, er_len]; exact hi
      exact comps_mem (gd_mem this)
    refine WP.loop3 [1, 6] (fun (i : Nat) (E : List Bool) (q : Value) => i ≤ zsv23.length ∧ E.length = 6400) (fun (i : Nat) (E : List Bool) (q : Value) => [(7, vi i), (5, q)]) (fun (i : Nat) (E : List Bool) (q : Value) => osl 4 boolT q E :: osl 149 slT v23 zsv23 :: bagS 4 boolT zsv23 :: L) (fun (i : Nat) (E : List Bool) (q : Value) => zsv23.length - i) 0 (List.replicate 6400 false) v20 ⟨by omega, by simp⟩ ⟨rfl, rfl, trivial⟩ Cv.p ?_
    rintro i E q τ ⟨hi, hE⟩
    refine WP.seq ?_
    refine WP.seq ?_
    refine WP.region ?_
    refine RG.pv rfl (PV.mvI (.inl rfl) rfl) ?_
    refine RG.pv rfl (PV.move (v := v23) rfl rfl) ?_
    refine RG.pv rfl (PV.len (v := v23) rfl Tryz.underlying178 rfl SlF.o) ?_
    refine RG.pv rfl (PV.lss rfl rfl rfl) ?_
    refine RG.nil ?_
    refine WP.cond rfl (fun h5 => ?_) (fun h5 => ?_)
    · have h5 := of_decide_eq_true h5
      refine WP.skip ?_
      refine WP.seq ?_
      refine WP.block ?_
      refine WP.seq ?_
      refine WP.region ?_
      refine RG.pv rfl (PV.move (v := v23) rfl rfl) ?_
      refine RG.pv rfl (PV.mvI (.inl rfl) rfl) ?_
      refine RG.pv rfl (PV.idxS (v := v23) rfl Is178 rfl SlF.o rfl rfl (by omega)) ?_
      refine RG.pv rfl (PV.loadE1 rfl Sc149 rfl rfl (El.o (getG (by omega))) rfl) ?_
      refine RG.callF (vs := [_]) rfl rfl En173 rfl (l19Count_s (Rs.inBag (xs := zsv23) i (by omega)) (hl6 i (by omega)) ?_)
      refine RG.pv rfl (PV.mvI (.inl rfl) rfl) ?_
      refine RG.pv rfl (PV.lss rfl rfl rfl) ?_
      refine RG.nil ?_
      refine WP.cond rfl (fun h6 => ?_) (fun h6 => ?_)
      · refine WP.region ?_
        refine RG.pv rfl (PV.move (v := q) rfl rfl) ?_
        refine RG.pv rfl (PV.move (v := v23) rfl rfl) ?_
        refine RG.pv rfl (PV.mvI (.inl rfl) rfl) ?_
        refine RG.pv rfl (PV.idxS (v := v23) rfl Is178 rfl SlF.o rfl rfl (by omega)) ?_
        refine RG.pv rfl (PV.loadE1 rfl Sc149 rfl rfl (El.o (getG (by omega))) rfl) ?_
        refine RG.callF (vs := [q, _]) rfl rfl En174 rfl (or_w Rs.o (Rs.inBag (xs := zsv23) i (by omega)) hE (hl6 i (by omega)) (fun v42 Dv42 hDv42 => ?_))
        refine RG.pv rfl (PV.asg (v := v42) rfl rfl) ?_
        refine RG.nil ?_
        refine WP.region ?_
        refine RG.pv rfl (PV.mvI (.inl rfl) rfl) ?_
        refine RG.pv rfl (PV.add rfl rfl rfl (by omega)) ?_
        refine RG.pv rfl (PV.mvI (.inr rfl) rfl) ?_
        refine RG.nil ?_
        exact ⟨rfl, i + 1, Dv42, v42, ⟨by omega, hDv42⟩, ⟨rfl, rfl, trivial⟩, ⟨rfl, rfl, trivial⟩, Cv.p, by omega⟩
      · refine WP.skip ?_
        refine WP.region ?_
        refine RG.pv rfl (PV.mvI (.inl rfl) rfl) ?_
        refine RG.pv rfl (PV.add rfl rfl rfl (by omega)) ?_
        refine RG.pv rfl (PV.mvI (.inr rfl) rfl) ?_
        refine RG.nil ?_
        exact ⟨rfl, i + 1, E, q, ⟨by omega, hE⟩, ⟨rfl, rfl, trivial⟩, ⟨rfl, rfl, trivial⟩, Cv.p, by omega⟩
    · refine WP.exit ?_
      refine WP.seq ?_
      refine WP.region ?_
      refine RG.pv rfl (PV.move (v := q) rfl rfl) ?_
      refine RG.callF (vs := [q]) rfl rfl En133 rfl (l03Canon_s Rs.o hE (fun v44 => ?_))
      refine RG.pv rfl (PV.asg (v := v44) rfl rfl) ?_
      refine RG.nil ?_
      refine WP.ret ?_
      exact ⟨_, _, ResV.one rfl rfl, Cv.p, k v44 _ (isReg_valid (isReg_canon hE))⟩
theorem len_bd {r : Rect} (hv : validRect r = true) : 0 ≤ lenR r ∧ lenR r ≤ 6400 := by
  have h := validR_iff.1 hv
  exact ⟨Int.mul_nonneg (by omega) (by omega), Int.le_trans (Int.mul_le_mul (by omega : r.x1 - r.x0 ≤ 80) (by omega : r.y1 - r.y0 ≤ 80) (by omega) (by omega)) (by decide)⟩
theorem mul_bd {a b : Int} (ha : 1 ≤ a ∧ a ≤ 100) (hb : 0 ≤ b ∧ b ≤ 6400) : 0 ≤ a * b ∧ a * b ≤ 640000 :=
  ⟨Int.mul_nonneg (by omega) (by omega), Int.le_trans (Int.mul_le_mul ha.2 hb.2 (by omega) (by omega)) (by decide)⟩
theorem markDens_w {v : Value} {xs : List Rect} {w p : Int} (h1 : Rs G L rectT v xs) (k : ∀ v' zs, validRs zs = true → R v' G (osl 101 rectT v' zs :: L)) : CallT Tryz.prog 119 #[v, vi w, vi p] G L R := by
  refine CallT.enter (args := _) Tryz.func119 rfl rfl (by kernel_rfl) rfl ?_
  refine WP.seq ?_
  refine WP.region ?_
  refine RG.pv rfl (PV.asg rfl rfl) ?_
  refine RG.nil ?_
  refine WP.seq ?_
  refine WP.seq ?_
  refine WP.region ?_
  refine RG.pv rfl (PV.move (v := v) rfl rfl) ?_
  refine RG.callF (vs := [v]) rfl rfl En68 rfl (l03Ok_s (Rs.up h1) ?_)
  refine RG.pv rfl (PV.not rfl rfl) ?_
  refine RG.pv rfl (PV.mvB (.inl rfl) rfl) ?_
  refine RG.gs rfl rfl rfl (fun hp => (PV.mvI (.inl rfl) rfl)) ?_
  refine RG.gs rfl rfl rfl (fun hp => (PV.lss rfl (gs_t hp) rfl)) ?_
  refine RG.pv rfl (PV.pickO rfl rfl rfl (fun hq => gs_t (geqF hq))) ?_
  refine RG.pv rfl (PV.mvB (.inl rfl) rfl) ?_
  refine RG.gs rfl rfl rfl (fun hp => (PV.mvI (.inl rfl) rfl)) ?_
  refine RG.gs rfl rfl rfl (fun hp => (PV.gtr rfl (gs_t hp) rfl)) ?_
  refine RG.pv rfl (PV.pickO rfl rfl rfl (fun hq => gs_t (geqF hq))) ?_
  refine RG.pv rfl (PV.mvB (.inl rfl) rfl) ?_
  refine RG.gs rfl rfl rfl (fun hp => (PV.mvI (.inl rfl) rfl)) ?_
  refine RG.gs rfl rfl rfl (fun hp => (PV.lss rfl (gs_t hp) rfl)) ?_
  refine RG.pv rfl (PV.pickO rfl rfl rfl (fun hq => gs_t (geqF hq))) ?_
  refine RG.pv rfl (PV.mvB (.inl rfl) rfl) ?_
  refine RG.gs rfl rfl rfl (fun hp => (PV.mvI (.inl rfl) rfl)) ?_
  refine RG.gs rfl rfl rfl (fun hp => (PV.gtr rfl (gs_t hp) rfl)) ?_
  refine RG.pv rfl (PV.pickO rfl rfl rfl (fun hq => gs_t (geqF hq))) ?_
  refine RG.nil ?_
  refine WP.cond rfl (fun h3 => ?_) (fun h3 => ?_)
  · refine WP.seq ?_
    refine WP.region ?_
    refine RG.ot rfl (OT.bslice (F := rectT) (els := []) rfl El35 rfl (by decide) rfl (by decide) trivial fun v31 => ?_)
    refine RG.pv rfl (PV.asg (v := v31) rfl rfl) ?_
    refine RG.nil ?_
    refine WP.ret ?_
    exact ⟨_, _, ResV.one rfl rfl, Cv.p, k v31 [] vnil⟩
  · have hreg : isReg xs = true := by cases g1 : isReg xs <;> simp_all
    have hpb : 1 ≤ p ∧ p ≤ 100 := by rw [hreg] at h3; simp at h3; omega
    have hbx := bits_length xs
    refine WP.skip ?_
    refine WP.seq ?_
    refine WP.region ?_
    refine RG.pv rfl (PV.move (v := v) rfl rfl) ?_
    refine RG.callF (vs := [v]) rfl rfl En134 rfl (l03Bits_s (Rs.up h1) (fun i hi => valid_get (isReg_valid hreg) hi) (fun v33 => ?_))
    refine RG.pv rfl (PV.asg (v := v33) rfl rfl) ?_
    refine RG.nil ?_
    refine WP.seq ?_
    refine WP.region ?_
    refine RG.pv rfl (PV.move (v := v33) rfl rfl) ?_
    refine RG.pv rfl (PV.len (v := v33) rfl Tryz.underlying149 rfl SlF.o) ?_
    refine RG.ot rfl (OT.make (F := boolT) (a0 := false) rfl El149 rfl (by decide) rfl rfl (by omega) (by omega) fun v36 => ?_)
    refine RG.pv rfl (PV.asg (v := v36) rfl rfl) ?_
    refine RG.nil ?_
    refine WP.seq ?_
    refine WP.region ?_
    refine RG.pv rfl (PV.mvI (.inl rfl) rfl) ?_
    refine RG.callF (vs := [_]) rfl rfl En175 rfl (windows_w (fun v38 zsv38 hzv38 hlv38 => ?_))
    refine RG.pv rfl (PV.asg (v := v38) rfl rfl) ?_
    refine RG.nil ?_
    refine WP.seq ?_
    refine WP.seq ?_
    refine WP.region ?_
    refine RG.pv rfl (PV.mvI (.inr rfl) rfl) ?_
    refine RG.nil ?_
    refine WP.block ?_
    refine WP.loop3 [2, 7, 9] (fun (i : Nat) (E : List Bool) (q : Value) => i ≤ zsv38.length ∧ E.length = 6400) (fun (i : Nat) (E : List Bool) (q : Value) => [(10, vi i), (8, q)]) (fun (i : Nat) (E : List Bool) (q : Value) => osl 4 boolT q E :: osl 101 rectT v38 zsv38 :: osl 4 boolT v33 (bits xs) :: L) (fun (i : Nat) (E : List Bool) (q : Value) => zsv38.length - i) 0 (List.replicate (bits xs).length false) v36 ⟨by omega, by simp [hbx]⟩ ⟨rfl, rfl, trivial⟩ Cv.p ?_
    rintro i E q τ ⟨hi, hE⟩
    refine WP.seq ?_
    refine WP.seq ?_
    refine WP.region ?_
    refine RG.pv rfl (PV.mvI (.inl rfl) rfl) ?_
    refine RG.pv rfl (PV.move (v := v38) rfl rfl) ?_
    refine RG.pv rfl (PV.len (v := v38) rfl Tryz.underlying35 rfl SlF.o) ?_
    refine RG.pv rfl (PV.lss rfl rfl rfl) ?_
    refine RG.nil ?_
    refine WP.cond rfl (fun h5 => ?_) (fun h5 => ?_)
    · have h5 := of_decide_eq_true h5
      have hlb := len_bd (hzv38 _ (gd_mem (show i < zsv38.length by omega)))
      have hmb := mul_bd hpb hlb
      refine WP.skip ?_
      refine WP.seq ?_
      refine WP.block ?_
      refine WP.seq ?_
      refine WP.regionH0 (.q 0 (.q 1 (.q 2 (.q 3 (.q 4 (.q 7 (.q 8 (.q 9 (.q 10 (.q 11 (.l 5 (.q 6 (.l 12 (.q 13 (.q 14 Sch.nil))))))))))))))) (by kernel_rfl) (by kernel_rfl) (by kernel_rfl) rfl ?_
      refine RH.pv rfl (fun _ _ _ _ h => h) (Gh.le_refl _) PickC.pick rfl (PV.move (v := v33) rfl rfl) ?_
      refine RH.pv rfl (fun _ _ _ _ h => h) (Gh.le_refl _) PickC.pick rfl (PV.move (v := v38) rfl rfl) ?_
      refine RH.pv rfl (fun _ _ _ _ h => h) (Gh.le_refl _) PickC.pick rfl (PV.mvI (.inl rfl) rfl) ?_
      refine RH.pv rfl (fun _ _ _ _ h => h) (Gh.le_refl _) PickC.pick rfl (PV.idxS (v := v38) rfl Is35 rfl SlF.o rfl rfl (by omega)) ?_
      refine RH.pv rfl (fun _ _ _ _ h => h) (Gh.le_refl _) PickC.pick rfl (PV.loadE rfl Ag101 rfl rfl (El.o (getG (by omega)))) ?_
      refine RH.pv rfl (fun _ _ _ _ h => h) (Gh.le_refl _) PickC.pick rfl (PV.mvI (.inl rfl) rfl) ?_
      refine RH.pv rfl (fun _ _ _ _ h => h) (Gh.le_refl _) PickC.pick rfl (PV.move (v := v38) rfl rfl) ?_
      refine RH.pv rfl (fun _ _ _ _ h => h) (Gh.le_refl _) PickC.pick rfl (PV.mvI (.inl rfl) rfl) ?_
      refine RH.pv rfl (fun _ _ _ _ h => h) (Gh.le_refl _) PickC.pick rfl (PV.idxS (v := v38) rfl Is35 rfl SlF.o rfl rfl (by omega)) ?_
      refine RH.pv rfl (fun _ _ _ _ h => h) (Gh.le_refl _) PickC.pick rfl (PV.loadE rfl Ag101 rfl rfl (El.o (getG (by omega)))) ?_
      refine RH.ot rfl rfl (OT.callF (vs := [v33, _]) rfl En176 rfl (cov_w Rs.o (bits_length _) (hzv38 _ (gd_mem (by omega))) (fun nw50 hnw50 => ⟨Gh.le_refl _, PickC.pick, ?_⟩)))
      refine RH.pv rfl (fun _ _ _ _ h => h) (Gh.le_refl _) PickC.pick rfl (PV.mul rfl rfl rfl (by omega)) ?_
      refine RH.ot rfl rfl (OT.callF (vs := [_]) rfl En177 rfl (len17_s (hzv38 _ (gd_mem (by omega))) ⟨Gh.le_refl _, PickC.pick, ?_⟩))
      refine RH.pv rfl (fun _ _ _ _ h => h) (Gh.le_refl _) PickC.pick rfl (PV.mul rfl rfl rfl (by omega)) ?_
      refine RH.pv rfl (fun _ _ _ _ h => h) (Gh.le_refl _) PickC.pick rfl (PV.lss rfl rfl rfl) ?_
      refine RH.nil ?_
      refine WP.cond rfl (fun h6 => ?_) (fun h6 => ?_)
      · refine WP.region ?_
        refine RG.pv rfl (PV.move (v := q) rfl rfl) ?_
        refine RG.pv rfl (PV.move (v := v38) rfl rfl) ?_
        refine RG.pv rfl (PV.mvI (.inl rfl) rfl) ?_
        refine RG.pv rfl (PV.idxS (v := v38) rfl Is35 rfl SlF.o rfl rfl (by omega)) ?_
        refine RG.pv rfl (PV.loadE rfl Ag101 rfl rfl (El.o (getG (by omega)))) ?_
        refine RG.callF (vs := [q, _]) rfl rfl En178 rfl (CallT.exS q (fill_s hE (hzv38 _ (gd_mem (by omega))) (fun D' hD' hg' => ?_)))
        refine RG.pv rfl (PV.asg rfl rfl) ?_
        refine RG.nil ?_
        refine WP.region ?_
        refine RG.pv rfl (PV.mvI (.inl rfl) rfl) ?_
        refine RG.pv rfl (PV.add rfl rfl rfl (by omega)) ?_
        refine RG.pv rfl (PV.mvI (.inr rfl) rfl) ?_
        refine RG.nil ?_
        exact ⟨rfl, i + 1, D', q, ⟨by omega, hD'⟩, ⟨rfl, rfl, trivial⟩, ⟨rfl, rfl, rfl, trivial⟩, Cv.p, by omega⟩
      · refine WP.skip ?_
        refine WP.region ?_
        refine RG.pv rfl (PV.mvI (.inl rfl) rfl) ?_
        refine RG.pv rfl (PV.add rfl rfl rfl (by omega)) ?_
        refine RG.pv rfl (PV.mvI (.inr rfl) rfl) ?_
        refine RG.nil ?_
        exact ⟨rfl, i + 1, E, q, ⟨by omega, hE⟩, ⟨rfl, rfl, trivial⟩, ⟨rfl, rfl, rfl, trivial⟩, Cv.p, by omega⟩
    · refine WP.exit ?_
      refine WP.seq ?_
      refine WP.seq ?_
      refine WP.region ?_
      refine RG.pv rfl (PV.mvI (.inr rfl) rfl) ?_
      refine RG.nil ?_
      refine WP.block ?_
      refine WP.loop2 [7, 8] (fun (j : Nat) (D : List Bool) => j ≤ 6400 ∧ D.length = 6400) (fun (j : Nat) (D : List Bool) => [(11, vi j)]) (fun (j : Nat) (D : List Bool) => osl 4 boolT q D :: osl 4 boolT v33 (bits xs) :: L) (fun (j : Nat) (D : List Bool) => 6400 - j) 0 E ⟨by omega, hE⟩ ⟨rfl, trivial⟩ Cv.p ?_
      rintro j D τ1 ⟨hj, hD⟩
      refine WP.seq ?_
      refine WP.seq ?_
      refine WP.region ?_
      refine RG.pv rfl (PV.mvI (.inl rfl) rfl) ?_
      refine RG.pv rfl (PV.move (v := q) rfl rfl) ?_
      refine RG.pv rfl (PV.len (v := q) rfl Tryz.underlying149 rfl SlF.o) ?_
      refine RG.pv rfl (PV.lss rfl rfl rfl) ?_
      refine RG.nil ?_
      refine WP.cond rfl (fun h6 => ?_) (fun h6 => ?_)
      · have h6 := of_decide_eq_true h6
        refine WP.skip ?_
        refine WP.seq ?_
        refine WP.block ?_
        refine WP.region ?_
        refine RG.pv rfl (PV.move (v := q) rfl rfl) ?_
        refine RG.pv rfl (PV.mvI (.inl rfl) rfl) ?_
        refine RG.pv rfl (PV.move (v := q) rfl rfl) ?_
        refine RG.pv rfl (PV.mvI (.inl rfl) rfl) ?_
        refine RG.pv rfl (PV.idxS (v := q) rfl Is149 rfl SlF.o rfl rfl (by omega)) ?_
        refine RG.pv rfl (PV.loadE1 rfl Sc4 rfl rfl (El.o (getG (by omega))) rfl) ?_
        refine RG.pv rfl (PV.mvB (.inl rfl) rfl) ?_
        refine RG.gs rfl rfl rfl (fun hp => (PV.move (v := v33) rfl rfl)) ?_
        refine RG.gs rfl rfl rfl (fun hp => (PV.mvI (.inl rfl) rfl)) ?_
        refine RG.gs rfl rfl rfl (fun hp => (PV.idxS (v := v33) rfl Is149 (gs_t hp) SlF.o (gs_t hp) rfl (by first | omega | (simp at hp; omega)))) ?_
        refine RG.gs rfl rfl rfl (fun hp => (PV.loadE1 rfl Sc4 (gs_t hp) rfl (El.o (getG (by first | omega | (simp at hp; omega)))) rfl)) ?_
        refine RG.gs rfl rfl rfl (fun hp => (PV.not rfl (gs_t hp))) ?_
        refine RG.pv rfl (PV.pickA rfl rfl (fun hq => gs_t (geqT hq)) rfl) ?_
        refine RG.pv rfl (PV.idxS (v := q) rfl Is149 rfl SlF.o rfl rfl (by omega)) ?_
        refine RG.ot rfl (OT.storeE (F := boolT) rfl Sz4 rfl rfl rfl (Cl.c rfl) (OneC.c rfl) (by omega) ?_)
        refine RG.nil ?_
        refine WP.region ?_
        refine RG.pv rfl (PV.mvI (.inl rfl) rfl) ?_
        refine RG.pv rfl (PV.add rfl rfl rfl (by omega)) ?_
        refine RG.pv rfl (PV.mvI (.inr rfl) rfl) ?_
        refine RG.nil ?_
        exact ⟨rfl, j + 1, (D.set j (gd D j && !gd (bits xs) j)), ⟨by omega, by simpa using hD⟩, ⟨rfl, trivial⟩, ⟨rfl, rfl, trivial⟩, Cv.p, by omega⟩
      · skip
        refine WP.exit ?_
        refine WP.seq ?_
        refine WP.region ?_
        refine RG.pv rfl (PV.move (v := q) rfl rfl) ?_
        refine RG.callF (vs := [q]) rfl rfl En133 rfl (l03Canon_s Rs.o hD (fun v87 => ?_))
        refine RG.pv rfl (PV.asg (v := v87) rfl rfl) ?_
        refine RG.nil ?_
        refine WP.ret ?_
        exact ⟨_, _, ResV.one rfl rfl, Cv.p, k v87 _ (isReg_valid (isReg_canon hD))⟩
end Go.Proofs.YtgngpegmaceaiaaGreat
namespace Go.Proofs.YtgngpegmaceaiaaGreat
set_option linter.unusedVariables false
set_option linter.unusedSimpArgs false
open Go
set_option maxRecDepth 20000
set_option linter.unusedSimpArgs false
def OIn (o : Int) : Prop := 0 ≤ o ∧ o ≤ 7
theorem OIn.cases {o : Int} (h : OIn o) : o = 0 ∨ o = 1 ∨ o = 2 ∨ o = 3 ∨ o = 4 ∨ o = 5 ∨ o = 6 ∨ o = 7 := by unfold OIn at h; omega
end Go.Proofs.YtgngpegmaceaiaaGreat
namespace Go.Proofs.YtgngpegmaceaiaaGreat
set_option linter.unusedVariables false
set_option linter.unusedSimpArgs false
open Go
set_option maxRecDepth 20000
set_option linter.unusedSimpArgs false
variable {G : Gh} {L : List Ch} {R : Value → Gh → List Ch → Prop}
theorem canon_empty {bs : List Bool} (hl : bs.length = 6400) : canon bs = [] ↔ ∀ y x, y < 80 → x < 80 → gb bs y x = false := by
  constructor
  · intro h y x hy hx
    have := canon_any (bs := bs) hy hx
    rw [h] at this
    simpa using this.symm
  · intro h
    cases e : canon bs with
    | nil => rfl
    | cons r rs =>
      exfalso
      have hr := RIn_all (isReg_canon hl) r (by rw [e]; exact .head _)
      obtain ⟨h1, h2, h3, h4, h5, h6⟩ := hr
      have hy : (r.y0 + 40).toNat < 80 := by omega
      have hx : (r.x0 + 40).toNat < 80 := by omega
      have := canon_any (bs := bs) hy hx
      rw [h _ _ hy hx, e, List.any_cons, inR_iff.2 (by omega)] at this
      simp at this
end Go.Proofs.YtgngpegmaceaiaaGreat
namespace Go.Proofs.YtgngpegmaceaiaaGreat
set_option linter.unusedVariables false
set_option linter.unusedSimpArgs false
open Go
set_option maxRecDepth 20000
set_option linter.unusedSimpArgs false
variable {G : Gh} {L : List Ch} {R : Value → Gh → List Ch → Prop}
def Regs (ys : List (Sl Rect)) : Prop := ∀ s ∈ ys, isReg s.xs = true
theorem Regs.set {ys : List (Sl Rect)} (h : Regs ys) {i : Nat} {v : Value} {xs : List Rect} (hx : isReg xs = true) : Regs (ys.set i ⟨v, xs⟩) := fun s hs => by
  rcases List.mem_or_eq_of_mem_set hs with h1 | rfl
  · exact h s h1
  · exact hx
theorem Regs.gd {ys : List (Sl Rect)} (h : Regs ys) {i : Nat} (hi : i < ys.length) : isReg (gd ys i).xs = true := h _ (by rw [gd_eq hi]; exact List.getElem_mem _)
theorem isReg_nil : isReg [] = true := by
  have h : canon (bits []) = [] := (canon_empty (bits_length _)).2 fun y x hy hx => by rw [gb_bits' _ hy hx]; rfl
  have := isReg_canon (bits_length [])
  rwa [h] at this
theorem Cv.nils {e : TypeId} {F : FT Rect} {L : List Ch} : ∀ n : Nat, Cv L (bagS e F (List.replicate n (default : Sl Rect)) :: L)
  | 0 => Cv.bag0 rfl
  | n + 1 => by
    rw [List.replicate_succ']
    exact (Cv.nils n).trans (Cv.nilS.trans Cv.bagS_add)
theorem drawLayers_s {b : Nat} {cv : Value} {bs : List UInt8} (hcode : SL G byteT cv bs) (k : ∀ v ys, ys.length = 8 → Regs ys → R v G (osl 35 slT v ys :: bagS 101 rectT ys :: src b cv :: L)) : CallT Tryz.prog 154 #[.pointer (some ⟨b, 0, none⟩)] G (src b cv :: L) R := by
  refine CallT.enter (args := _) Tryz.func154 rfl rfl (by kernel_rfl) rfl ?_
  refine WP.seq ?_
  refine WP.region ?_
  refine RG.pv rfl (PV.asg rfl rfl) ?_
  refine RG.nil ?_
  refine WP.seq ?_
  refine WP.region ?_
  refine RG.ot rfl (OT.make (m := 8) (F := (slT (α := Rect))) (a0 := default) rfl El50 rfl (by decide) rfl rfl (by omega) (by omega) fun v5 => ?_)
  refine RG.pv rfl (PV.asg (v := v5) rfl rfl) ?_
  refine RG.nil ?_
  refine WP.seq ?_
  refine WP.seq ?_
  refine WP.region ?_
  refine RG.pv rfl (PV.move rfl rfl) ?_
  refine RG.callF (vs := [_, _]) rfl rfl En93 rfl (CallT.exC (src b cv) (next_s hcode (by omega) (fun w7 hw7 => ?_)))
  refine RG.pv rfl (PV.add rfl rfl rfl (by omega)) ?_
  refine RG.pv rfl (PV.mvI (.inr rfl) rfl) ?_
  refine RG.nil ?_
  refine WP.block ?_
  refine WP.cv ((Cv.p (C := osl 35 slT v5 (List.replicate 8 (default : Sl Rect)) :: src b cv :: L)).trans (Cv.cons (Cv.nils (e := 101) (F := rectT) 8))) ?_
  refine WP.loop2 [0, 3] (fun (j : Int) (ys : List (Sl Rect)) => j ≤ 10 ∧ ys.length = 8 ∧ Regs ys) (fun (j : Int) (ys : List (Sl Rect)) => [(4, vi j)]) (fun (j : Int) (ys : List (Sl Rect)) => osl 35 slT v5 ys :: bagS 101 rectT ys :: src b cv :: L) (fun (j : Int) (ys : List (Sl Rect)) => j.toNat) (w7 + 1) (List.replicate 8 (default : Sl Rect)) ⟨by omega, rfl, fun s hs => by rw [List.eq_of_mem_replicate hs]; exact isReg_nil⟩ ⟨rfl, trivial⟩ Cv.p ?_
  rintro j ys τ ⟨hj, hyl, hyr⟩
  refine WP.seq ?_
  refine WP.seq ?_
  refine WP.region ?_
  refine RG.pv rfl (PV.mvI (.inl rfl) rfl) ?_
  refine RG.pv rfl (PV.gtr rfl rfl rfl) ?_
  refine RG.nil ?_
  refine WP.cond rfl (fun h2 => ?_) (fun h2 => ?_)
  · have h2 := of_decide_eq_true h2
    refine WP.skip ?_
    refine WP.seq ?_
    refine WP.block ?_
    refine WP.region ?_
    refine RG.pv rfl (PV.move (v := v5) rfl rfl) ?_
    refine RG.pv rfl (PV.move rfl rfl) ?_
    refine RG.callF (vs := [_, _]) rfl rfl En93 rfl (CallT.exC (src b cv) (next_s hcode (by omega) (fun w15 hw15 => ?_)))
    refine RG.pv rfl (PV.move rfl rfl) ?_
    refine RG.callF (vs := [_]) rfl rfl En208 rfl (CallT.exC (src b cv) (drawRegion_s hcode (fun v17 xsv17 hregv17 => ?_)))
    refine RG.pv rfl (PV.idxS (j := w15.toNat) (v := v5) rfl Is50 rfl SlF.o rfl (by omega) (by omega)) ?_
    refine RG.ot rfl (OT.storeE (v := v17) (a := ⟨v17, xsv17⟩) (F := (slT (α := Rect))) rfl Sz35 rfl rfl rfl (Cl.s (v := v17) SlF.o) (OneC.sl SlF.o OneC.nil) (by omega) ?_)
    refine RG.nil ?_
    refine WP.region ?_
    refine RG.pv rfl (PV.mvI (.inl rfl) rfl) ?_
    refine RG.pv rfl (PV.sub rfl rfl rfl (by omega)) ?_
    refine RG.pv rfl (PV.mvI (.inr rfl) rfl) ?_
    refine RG.nil ?_
    exact ⟨rfl, j - 1, (ys.set w15.toNat ⟨v17, xsv17⟩), ⟨by omega, by simpa using hyl, hyr.set hregv17⟩, ⟨rfl, trivial⟩, ⟨rfl, rfl, trivial⟩, ((Cv.p (C := osl 101 rectT v17 xsv17 :: bagS 101 rectT ys :: osl 35 slT v5 (ys.set w15.toNat ⟨v17, xsv17⟩) :: src b cv :: L)).trans ((Cv.bagSet w15.toNat (by omega)).trans Cv.p)), by omega⟩
  · refine WP.exit ?_
    refine WP.seq ?_
    refine WP.region ?_
    refine RG.pv rfl (PV.move (v := v5) rfl rfl) ?_
    refine RG.pv rfl (PV.asg (v := v5) rfl rfl) ?_
    refine RG.nil ?_
    refine WP.ret ?_
    exact ⟨_, _, ResV.one rfl rfl, Cv.p, k v5 ys hyl hyr⟩
end Go.Proofs.YtgngpegmaceaiaaGreat
namespace Go.Proofs.YtgngpegmaceaiaaGreat
set_option linter.unusedVariables false
set_option linter.unusedSimpArgs false
open Go
theorem WP.loop5 {P : Program} {n : Nat} {Q : Post} {σ : Nat → Value} {G : Gh} {L : List Ch} {c : Code} (keep : List Nat) {A B D E F : Type} (J : A → B → D → E → F → Prop) (S : A → B → D → E → F → List (Nat × Value)) (C : A → B → D → E → F → List Ch) (μ : A → B → D → E → F → Nat) (a0 : A) (b0 : B) (d0 : D) (e0 : E) (f0 : F) (j0 : J a0 b0 d0 e0 f0) (h0 : HasV σ (S a0 b0 d0 e0 f0)) (p0 : Cv L (C a0 b0 d0 e0 f0))
    (round : ∀ a b d e f τ, J a b d e f → WP P n c (thenP (fun σ' G' L' => G' = G ∧ ∃ a' b' d' e' f', J a' b' d' e' f' ∧ HasV σ' (S a' b' d' e' f') ∧ Keeps σ' σ keep ∧ Cv L' (C a' b' d' e' f') ∧ μ a' b' d' e' f' < μ a b d e f) Q) (upds (updk τ σ keep) (S a b d e f)) G (C a b d e f)) : WP P n (.loop c) Q σ G L :=
  WP.loop0 keep (A := A × B × D × E × F) (fun x => J x.1 x.2.1 x.2.2.1 x.2.2.2.1 x.2.2.2.2) (fun x => S x.1 x.2.1 x.2.2.1 x.2.2.2.1 x.2.2.2.2) (fun x => C x.1 x.2.1 x.2.2.1 x.2.2.2.1 x.2.2.2.2) (fun x => μ x.1 x.2.1 x.2.2.1 x.2.2.2.1 x.2.2.2.2) (a0, b0, d0, e0, f0) j0 h0 p0 fun x τ j =>
    WP.mono (round x.1 x.2.1 x.2.2.1 x.2.2.2.1 x.2.2.2.2 τ j) fun e σ G L hq => by
      cases e with
      | normal => obtain ⟨e, a', b', d', e', f', h⟩ := hq; exact ⟨e, (a', b', d', e', f'), h⟩
      | _ => exact hq
end Go.Proofs.YtgngpegmaceaiaaGreat
namespace Go.Proofs.YtgngpegmaceaiaaGreat
set_option linter.unusedVariables false
set_option linter.unusedSimpArgs false
open Go
set_option maxRecDepth 20000
set_option linter.unusedSimpArgs false
set_option linter.unusedVariables false
set_option maxHeartbeats 2000000
variable {G : Gh} {L : List Ch} {R : Value → Gh → List Ch → Prop}
theorem hasI_at {S : List Bool} {q : Int × Int} {dx dy : Int} : hasI S (q.1 - 40 + dx) (q.2 - 40 + dy) = (decide (0 ≤ q.1 + dx) && decide (q.1 + dx < 80) && (decide (0 ≤ q.2 + dy) && decide (q.2 + dy < 80)) && gd S ((q.2 + dy) * 80 + (q.1 + dx)).toNat) := by
  rw [hasI, within, within, show (q.2 - 40 + dy + 40) * 80 + (q.1 - 40 + dx) + 40 = (q.2 + dy) * 80 + (q.1 + dx) by omega]
  congr 1
  rw [Bool.eq_iff_iff]; simp; omega
theorem flood7_s {v : Value} {S : List Bool} {x y : Int} (h1 : Rs G L boolT v S) (hS : S.length = 6400) (hx : 0 ≤ x ∧ x < 80) (hy : 0 ≤ y ∧ y < 80) (hon : gb S y.toNat x.toNat = true)
    (k : ∀ v', R v' G (osl 4 boolT v' (compB S (y.toNat, x.toNat)) :: L)) : CallT Tryz.prog 258 #[v, vi (x - 40), vi (y - 40), .bool false] G L R := by
  have hst := FI.start (S := S) hx hy
  have hseed : On S (y.toNat, x.toNat) := ⟨by simp only; omega, by simp only; omega, hon⟩
  have hrl : (List.replicate S.length false).length = 6400 := by simp [hS]
  refine CallT.enter (args := _) Tryz.func258 rfl rfl (by kernel_rfl) rfl ?_
  refine WP.seq ?_
  refine WP.region ?_
  refine RG.pv rfl (PV.asg rfl rfl) ?_
  refine RG.nil ?_
  refine WP.seq ?_
  refine WP.region ?_
  refine RG.pv rfl (PV.move (v := v) rfl rfl) ?_
  refine RG.pv rfl (PV.len (v := v) rfl Tryz.underlying149 rfl (SlF.r h1)) ?_
  refine RG.ot rfl (OT.make (F := boolT) (a0 := false) rfl El149 rfl (by decide) rfl rfl (by omega) (by omega) fun v17 => ?_)
  refine RG.pv rfl (PV.asg (v := v17) rfl rfl) ?_
  refine RG.nil ?_
  refine WP.seq ?_
  refine WP.region ?_
  refine RG.pv rfl (PV.mvI (.inl rfl) rfl) ?_
  refine RG.pv rfl (PV.mvI (.inl rfl) rfl) ?_
  refine RG.pv rfl (PV.build (vs := [(0, [vi _]), (1, [vi _])]) (out := [_, _]) rfl Zr210 Pl210 ⟨rfl, (Cl.c rfl), ⟨rfl, (Cl.c rfl), trivial⟩⟩ rfl) ?_
  refine RG.ot rfl (OT.bslice (F := ptT) (els := [⟨_, _⟩]) rfl El207 rfl (by decide) rfl (by decide) ⟨rfl, (Cl.c rfl), trivial⟩ fun v21 => ?_)
  refine RG.pv rfl (PV.asg (v := v21) rfl rfl) ?_
  refine RG.nil ?_
  refine WP.seq ?_
  refine WP.region ?_
  refine RG.pv rfl (PV.move (v := v17) rfl rfl) ?_
  refine RG.pv rfl (PV.mvI (.inl rfl) rfl) ?_
  refine RG.pv rfl (PV.mvI (.inl rfl) rfl) ?_
  refine RG.callF (vs := [_, _]) rfl rfl En189 rfl (l03At_s (by first | omega | (simp [within, hasI] at hp; omega)) ?_)
  refine RG.pv rfl (PV.idxS (j := y.toNat * 80 + x.toNat) (v := v17) rfl Is149 rfl SlF.o rfl (by omega) (by omega)) ?_
  refine RG.ot rfl (OT.storeE (F := boolT) rfl Sz4 rfl rfl rfl (Cl.c rfl) (OneC.c rfl) (by omega) ?_)
  refine RG.nil ?_
  refine WP.seq ?_
  refine WP.seq ?_
  refine WP.region ?_
  refine RG.pv rfl (PV.mvI (.inr rfl) rfl) ?_
  refine RG.nil ?_
  refine WP.block ?_
  refine WP.cv ((Cv.p (C := osl 4 boolT v17 ((List.replicate S.length false).set (y.toNat * 80 + x.toNat) true) :: osl 210 ptT v21 [⟨x - 40, y - 40⟩] :: L)).trans (Cv.cast (L' := osl 4 boolT v17 ((List.replicate 6400 false).set (y.toNat * 80 + x.toNat) true) :: osl 210 ptT v21 ([(x, y)].map ptOf) :: L) (by rw [hS]; rfl))) ?_
  refine WP.loop4 [0, 3, 9] (fun (i : Nat) (Q : List (Int × Int)) (O : List Bool) (qv : Value) => i ≤ Q.length ∧ FI S (y.toNat, x.toNat) O Q ∧ Done S O Q i ∧ On O (y.toNat, x.toNat)) (fun (i : Nat) (Q : List (Int × Int)) (O : List Bool) (qv : Value) => [(11, vi i), (10, qv)]) (fun (i : Nat) (Q : List (Int × Int)) (O : List Bool) (qv : Value) => osl 4 boolT v17 O :: osl 210 ptT qv (Q.map ptOf) :: L) (fun (i : Nat) (Q : List (Int × Int)) (O : List Bool) (qv : Value) => 6401 - i) 0 [(x, y)] ((List.replicate 6400 false).set (y.toNat * 80 + x.toNat) true) v21 ⟨by simp, hst, fun m hm => by omega, by have := hst.on 0 (by simp); simpa [gd, qc] using this⟩ ⟨rfl, rfl, trivial⟩ Cv.p ?_
  rintro i Q O qv τ ⟨hi, hF, hD, h0⟩
  refine WP.seq ?_
  refine WP.seq ?_
  refine WP.region ?_
  refine RG.pv rfl (PV.mvI (.inl rfl) rfl) ?_
  refine RG.pv rfl (PV.move (v := qv) rfl rfl) ?_
  refine RG.pv rfl (PV.len (v := qv) rfl Tryz.underlying207 rfl SlF.o) ?_
  refine RG.pv rfl (PV.lss rfl rfl rfl) ?_
  refine RG.nil ?_
  have hml : (Q.map ptOf).length = Q.length := by simp
  refine WP.cond rfl (fun h2 => ?_) (fun h2 => ?_)
  · have h2 := of_decide_eq_true h2
    have hQ := hF.len_le
    have hb := hF.bd i (by omega)
    refine WP.skip ?_
    refine WP.seq ?_
    refine WP.block ?_
    refine WP.seq ?_
    refine WP.region ?_
    refine RG.pv rfl (PV.mvI (.inr rfl) rfl) ?_
    refine RG.nil ?_
    refine WP.block ?_
    refine WP.loop4 [0, 3, 9, 11] (fun (dy : Int) (Q1 : List (Int × Int)) (O1 : List Bool) (qv1 : Value) => (-1 ≤ dy ∧ dy ≤ 2) ∧ FI S (y.toNat, x.toNat) O1 Q1 ∧ Done S O1 Q1 i ∧ On O1 (y.toNat, x.toNat) ∧ i < Q1.length ∧ gd Q1 i = gd Q i ∧ Near S O1 (qc (gd Q i)) dy (-1)) (fun (dy : Int) (Q1 : List (Int × Int)) (O1 : List Bool) (qv1 : Value) => [(12, vi dy), (10, qv1)]) (fun (dy : Int) (Q1 : List (Int × Int)) (O1 : List Bool) (qv1 : Value) => osl 4 boolT v17 O1 :: osl 210 ptT qv1 (Q1.map ptOf) :: L) (fun (dy : Int) (Q1 : List (Int × Int)) (O1 : List Bool) (qv1 : Value) => (2 - dy).toNat) (-1) Q O qv ⟨by omega, hF, hD, h0, by omega, rfl, Near.zero _ _ _⟩ ⟨rfl, rfl, trivial⟩ Cv.p ?_
    rintro dy Q1 O1 qv1 τ1 ⟨⟨hy1, hy2⟩, hF1, hD1, h01, hi1, hq1, hN1⟩
    refine WP.seq ?_
    refine WP.seq ?_
    refine WP.region ?_
    refine RG.pv rfl (PV.mvI (.inl rfl) rfl) ?_
    refine RG.pv rfl (PV.leq rfl rfl rfl) ?_
    refine RG.nil ?_
    refine WP.cond rfl (fun h3 => ?_) (fun h3 => ?_)
    · have h3 := of_decide_eq_true h3
      refine WP.skip ?_
      refine WP.seq ?_
      refine WP.block ?_
      refine WP.seq ?_
      refine WP.region ?_
      refine RG.pv rfl (PV.mvI (.inr rfl) rfl) ?_
      refine RG.nil ?_
      refine WP.block ?_
      refine WP.loop4 [0, 3, 9, 11, 12] (fun (dx : Int) (Q2 : List (Int × Int)) (O2 : List Bool) (qv2 : Value) => (-1 ≤ dx ∧ dx ≤ 2) ∧ FI S (y.toNat, x.toNat) O2 Q2 ∧ Done S O2 Q2 i ∧ On O2 (y.toNat, x.toNat) ∧ i < Q2.length ∧ gd Q2 i = gd Q i ∧ Near S O2 (qc (gd Q i)) dy dx) (fun (dx : Int) (Q2 : List (Int × Int)) (O2 : List Bool) (qv2 : Value) => [(13, vi dx), (10, qv2)]) (fun (dx : Int) (Q2 : List (Int × Int)) (O2 : List Bool) (qv2 : Value) => osl 4 boolT v17 O2 :: osl 210 ptT qv2 (Q2.map ptOf) :: L) (fun (dx : Int) (Q2 : List (Int × Int)) (O2 : List Bool) (qv2 : Value) => (2 - dx).toNat) (-1) Q1 O1 qv1 ⟨by omega, hF1, hD1, h01, hi1, hq1, hN1⟩ ⟨rfl, rfl, trivial⟩ Cv.p ?_
      rintro dx Q2 O2 qv2 τ2 ⟨⟨hx1, hx2⟩, hF2, hD2, h02, hi2, hq2, hN2⟩
      refine WP.seq ?_
      refine WP.seq ?_
      refine WP.region ?_
      refine RG.pv rfl (PV.mvI (.inl rfl) rfl) ?_
      refine RG.pv rfl (PV.leq rfl rfl rfl) ?_
      refine RG.nil ?_
      have hml2 : (Q2.map ptOf).length = Q2.length := by simp
      refine WP.cond rfl (fun h4 => ?_) (fun h4 => ?_)
      · have h4 := of_decide_eq_true h4
        have hl2 := hF2.len
        have hQ2 := hF2.len_le
        have hb2 : 0 ≤ (gd Q2 i).1 ∧ (gd Q2 i).1 < 80 ∧ 0 ≤ (gd Q2 i).2 ∧ (gd Q2 i).2 < 80 := by rw [hq2]; exact hb
        have e1 : gd (Q2.map ptOf) i = ⟨(gd Q2 i).1 - 40, (gd Q2 i).2 - 40⟩ := gd_pt hi2
        have ex : (gd (Q2.map ptOf) i).x = (gd Q2 i).1 - 40 := by rw [e1]
        have ey : (gd (Q2.map ptOf) i).y = (gd Q2 i).2 - 40 := by rw [e1]
        refine WP.skip ?_
        refine WP.seq ?_
        refine WP.block ?_
        refine WP.cut1 [0, 3, 9, 10, 11, 12, 13] (fun (b14 : Nat) => True) (fun (b14 : Nat) => [(14, .pointer (some ⟨b14, 0, none⟩))]) (fun (b14 : Nat) => blk b14 210 [vi ((gd Q2 i).1 - 40 + dx), vi ((gd Q2 i).2 - 40 + dy)] :: osl 4 boolT v17 O2 :: osl 210 ptT qv2 (Q2.map ptOf) :: L) ?_ ?_
        refine WP.regionH0 (.q 0 (.q 1 (.q 2 (.q 3 (.q 4 (.q 5 (.q 6 (.q 7 (.q 8 (.q 9 (.q 10 (.q 11 (.q 12 (.q 13 (.q 14 (.l 15 (.l 16 Sch.nil))))))))))))))))) (by kernel_rfl) (by kernel_rfl) (by kernel_rfl) rfl ?_
        refine RH.pv rfl (fun _ _ _ _ h => h) (Gh.le_refl _) PickC.pick rfl (PV.move (v := qv2) rfl rfl) ?_
        refine RH.pv rfl (fun _ _ _ _ h => h) (Gh.le_refl _) PickC.pick rfl (PV.mvI (.inl rfl) rfl) ?_
        refine RH.pv rfl (fun _ _ _ _ h => h) (Gh.le_refl _) PickC.pick rfl (PV.idxS (v := qv2) rfl Is207 rfl SlF.o rfl rfl (by omega)) ?_
        refine RH.pv rfl (fun _ _ _ _ h => h) (Gh.le_refl _) PickC.pick rfl (PV.field rfl Fo210_0 rfl) ?_
        refine RH.pv rfl (fun _ _ _ _ h => h) (Gh.le_refl _) PickC.pick rfl (PV.loadF (v := qv2) (j := 0) rfl Sc2 rfl rfl (El.o (getG (by omega))) rfl) ?_
        refine RH.pv rfl (fun _ _ _ _ h => h) (Gh.le_refl _) PickC.pick rfl (PV.mvI (.inl rfl) rfl) ?_
        refine RH.pv rfl (fun _ _ _ _ h => h) (Gh.le_refl _) PickC.pick rfl (PV.add rfl rfl rfl (by omega)) ?_
        refine RH.pv rfl (fun _ _ _ _ h => h) (Gh.le_refl _) PickC.pick rfl (PV.move (v := qv2) rfl rfl) ?_
        refine RH.pv rfl (fun _ _ _ _ h => h) (Gh.le_refl _) PickC.pick rfl (PV.mvI (.inl rfl) rfl) ?_
        refine RH.pv rfl (fun _ _ _ _ h => h) (Gh.le_refl _) PickC.pick rfl (PV.idxS (v := qv2) rfl Is207 rfl SlF.o rfl rfl (by omega)) ?_
        refine RH.pv rfl (fun _ _ _ _ h => h) (Gh.le_refl _) PickC.pick rfl (PV.field rfl Fo210_1 rfl) ?_
        refine RH.pv rfl (fun _ _ _ _ h => h) (Gh.le_refl _) PickC.pick rfl (PV.loadF rfl Sc2 rfl rfl (El.o (getG (by omega))) rfl) ?_
        refine RH.pv rfl (fun _ _ _ _ h => h) (Gh.le_refl _) PickC.pick rfl (PV.mvI (.inl rfl) rfl) ?_
        refine RH.pv rfl (fun _ _ _ _ h => h) (Gh.le_refl _) PickC.pick rfl (PV.add rfl rfl rfl (by omega)) ?_
        refine RH.pv rfl (fun _ _ _ _ h => h) (Gh.le_refl _) PickC.pick rfl (PV.build (vs := [(0, [vi _]), (1, [vi _])]) (out := [_, _]) rfl Zr210 Pl210 ⟨rfl, (Cl.c rfl), ⟨rfl, (Cl.c rfl), trivial⟩⟩ rfl) ?_
        refine RH.ot rfl rfl (OT.alloc rfl Zr210 fun b14 => ⟨Gh.le_refl _, PickC.pick, ?_⟩)
        refine RH.ot rfl rfl (OT.storeW (vs := [vi _, vi _]) rfl Sz210 rfl rfl (Cl.c rfl) rfl rfl (OneC.c rfl) ⟨Gh.le_refl _, PickC.pick, ?_⟩)
        refine RH.nil ?_
        · exact ⟨rfl, b14, trivial, ⟨rfl, trivial⟩, ⟨rfl, rfl, rfl, rfl, rfl, rfl, rfl, trivial⟩, (Cv.p (C := blk b14 210 [vi ((gd (Q2.map ptOf) i).x + dx), vi ((gd (Q2.map ptOf) i).y + dy)] :: osl 4 boolT v17 O2 :: osl 210 ptT qv2 (Q2.map ptOf) :: L)).trans (Cv.cast (by rw [ex, ey]))⟩
        · have ej : ((gd Q2 i).2 - 40 + dy + 40) * 80 + ((gd Q2 i).1 - 40 + dx) + 40 = ((gd Q2 i).2 + dy) * 80 + ((gd Q2 i).1 + dx) := by omega
          rintro b14 τ3 _
          refine WP.seq ?_
          refine WP.region ?_
          refine RG.pv rfl (PV.mvB (.inl rfl) rfl) ?_
          refine RG.pv rfl (PV.mvB (.inl rfl) rfl) ?_
          refine RG.gs rfl rfl rfl (fun hp => (PV.mvI (.inl rfl) rfl)) ?_
          refine RG.gs rfl rfl rfl (fun hp => (PV.eql rfl (gs_t hp) rfl)) ?_
          refine RG.pv rfl (PV.pickO rfl rfl rfl (fun hq => gs_t (geqF hq))) ?_
          refine RG.pv rfl (PV.mvB (.inl rfl) rfl) ?_
          refine RG.gs rfl rfl rfl (fun hp => (PV.mvI (.inl rfl) rfl)) ?_
          refine RG.gs rfl rfl rfl (fun hp => (PV.eql rfl (gs_t hp) rfl)) ?_
          refine RG.pv rfl (PV.pickO rfl rfl rfl (fun hq => gs_t (geqF hq))) ?_
          refine RG.pv rfl (PV.mvB (.inl rfl) rfl) ?_
          refine RG.gs rfl rfl rfl (fun hp => (PV.move (v := v) rfl rfl)) ?_
          refine RG.gs rfl rfl rfl (fun hp => (PV.field rfl Fo210_0 rfl)) ?_
          refine RG.gs rfl rfl rfl (fun hp => (PV.load1 rfl Sc2 (gs_t hp) (Rd.blk rfl))) ?_
          refine RG.gs rfl rfl rfl (fun hp => (PV.field rfl Fo210_1 rfl)) ?_
          refine RG.gs rfl rfl rfl (fun hp => (PV.load1 rfl Sc2 (gs_t hp) (Rd.blk rfl))) ?_
          refine RG.gsC rfl rfl rfl rfl En225 (fun hp => ⟨_, (acons (gs_t hp) (acons (gs_t hp) (acons (gs_t hp) anil))), l03Has_s (Rs.up h1) hS ⟨rfl, rfl, rfl⟩⟩) ?_
          refine RG.pv rfl (PV.pickA rfl rfl (fun hq => gs_t (geqT hq)) rfl) ?_
          refine RG.pv rfl (PV.mvB (.inl rfl) rfl) ?_
          refine RG.gs rfl rfl rfl (fun hp => (PV.move (v := v17) rfl rfl)) ?_
          refine RG.gs rfl rfl rfl (fun hp => (PV.field rfl Fo210_0 rfl)) ?_
          refine RG.gs rfl rfl rfl (fun hp => (PV.load1 rfl Sc2 (gs_t hp) (Rd.blk rfl))) ?_
          refine RG.gs rfl rfl rfl (fun hp => (PV.field rfl Fo210_1 rfl)) ?_
          refine RG.gs rfl rfl rfl (fun hp => (PV.load1 rfl Sc2 (gs_t hp) (Rd.blk rfl))) ?_
          refine RG.gsC rfl rfl rfl rfl En189 (fun hp => ⟨_, (acons (gs_t hp) (acons (gs_t hp) anil)), l03At_s (by first | omega | (simp [within, hasI] at hp; omega)) ⟨rfl, rfl, rfl⟩⟩) ?_
          refine RG.gs rfl rfl rfl (fun hp => (PV.idxS (j := ((gd Q2 i).2 + dy).toNat * 80 + ((gd Q2 i).1 + dx).toNat) (v := v17) rfl Is149 (gs_t hp) SlF.o (gs_t hp) (by first | omega | (simp [within, hasI] at hp; omega)) (by first | omega | (simp [within, hasI] at hp; omega)))) ?_
          refine RG.gs rfl rfl rfl (fun hp => (PV.loadE1 rfl Sc4 (gs_t hp) rfl (El.o (getG (by first | omega | (simp [within, hasI] at hp; omega)))) rfl)) ?_
          refine RG.gs rfl rfl rfl (fun hp => (PV.not rfl (gs_t hp))) ?_
          refine RG.pv rfl (PV.pickA rfl rfl (fun hq => gs_t (geqT hq)) rfl) ?_
          refine RG.nil ?_
          have hcon : ((((false || decide (dx = 0)) || decide (dy = 0)) && hasI S ((gd Q2 i).1 - 40 + dx) ((gd Q2 i).2 - 40 + dy)) && !gd O2 (((gd Q2 i).2 + dy).toNat * 80 + ((gd Q2 i).1 + dx).toNat)) = true ↔ (dx = 0 ∨ dy = 0) ∧ (0 ≤ (gd Q2 i).1 + dx ∧ 0 ≤ (gd Q2 i).2 + dy ∧ (gd Q2 i).1 + dx < 80 ∧ (gd Q2 i).2 + dy < 80) ∧ gb S ((gd Q2 i).2 + dy).toNat ((gd Q2 i).1 + dx).toNat = true ∧ gb O2 ((gd Q2 i).2 + dy).toNat ((gd Q2 i).1 + dx).toNat = false := by
            rw [hasI_at]
            simp only [Bool.and_eq_true, Bool.or_eq_true, decide_eq_true_eq, Bool.not_eq_true', Bool.false_or, gb]
            constructor
            · rintro ⟨⟨a1, ⟨⟨a2, a3⟩, a4, a5⟩, a6⟩, a7⟩
              rw [show (((gd Q2 i).2 + dy) * 80 + ((gd Q2 i).1 + dx)).toNat = ((gd Q2 i).2 + dy).toNat * 80 + ((gd Q2 i).1 + dx).toNat by omega] at a6
              exact ⟨a1, ⟨a2, a4, a3, a5⟩, a6, a7⟩
            · rintro ⟨a1, ⟨a2, a4, a3, a5⟩, a6, a7⟩
              rw [show (((gd Q2 i).2 + dy) * 80 + ((gd Q2 i).1 + dx)).toNat = ((gd Q2 i).2 + dy).toNat * 80 + ((gd Q2 i).1 + dx).toNat by omega]
              exact ⟨⟨a1, ⟨⟨a2, a3⟩, a4, a5⟩, a6⟩, a7⟩
          refine WP.cond rfl (fun h5 => ?_) (fun h5 => ?_)
          · obtain ⟨a1, ⟨a2, a3, a4, a5⟩, a6, a7⟩ := hcon.1 h5
            refine WP.seq ?_
            refine WP.region ?_
            refine RG.pv rfl (PV.move (v := v17) rfl rfl) ?_
            refine RG.pv rfl (PV.field rfl Fo210_0 rfl) ?_
            refine RG.pv rfl (PV.load1 rfl Sc2 rfl (Rd.blk rfl)) ?_
            refine RG.pv rfl (PV.field rfl Fo210_1 rfl) ?_
            refine RG.pv rfl (PV.load1 rfl Sc2 rfl (Rd.blk rfl)) ?_
            refine RG.callF (vs := [_, _]) rfl rfl En189 rfl (l03At_s (by first | omega | (simp [within, hasI] at hp; omega)) ?_)
            refine RG.pv rfl (PV.idxS (j := ((gd Q2 i).2 + dy).toNat * 80 + ((gd Q2 i).1 + dx).toNat) (v := v17) rfl Is149 rfl SlF.o rfl (by omega) (by omega)) ?_
            refine RG.ot rfl (OT.storeE (F := boolT) rfl Sz4 rfl rfl rfl (Cl.c rfl) (OneC.c rfl) (by omega) ?_)
            refine RG.nil ?_
            refine WP.region ?_
            refine RG.pv rfl (PV.move (v := qv2) rfl rfl) ?_
            refine RG.pv rfl (PV.loadW rfl Ag210 rfl rfl) ?_
            refine RG.ot rfl (OT.bslice (F := ptT) (els := [⟨_, _⟩]) rfl El207 rfl (by decide) rfl (by decide) ⟨rfl, (Cl.c rfl), trivial⟩ fun v93 => ?_)
            refine RG.ot rfl (OT.append (v := qv2) (u := v93) (F := ptT) rfl El207 rfl (by decide) rfl rfl Rs.o (OneL.c (fun _ => rfl)) rfl (by first | omega | (simp <;> omega)) fun v94 => ?_)
            refine RG.pv rfl (PV.asg (v := v94) rfl rfl) ?_
            refine RG.nil ?_
            refine WP.region ?_
            refine RG.pv rfl (PV.mvI (.inl rfl) rfl) ?_
            refine RG.pv rfl (PV.add rfl rfl rfl (by omega)) ?_
            refine RG.pv rfl (PV.mvI (.inr rfl) rfl) ?_
            refine RG.nil ?_
            have ep : ptOf ((gd Q2 i).1 + dx, (gd Q2 i).2 + dy) = ⟨(gd Q2 i).1 - 40 + dx, (gd Q2 i).2 - 40 + dy⟩ := by simp only [ptOf, Pt.mk.injEq]; omega
            exact ⟨rfl, dx + 1, (Q2 ++ [((gd Q2 i).1 + dx, (gd Q2 i).2 + dy)]), (O2.set (((gd Q2 i).2 + dy).toNat * 80 + ((gd Q2 i).1 + dx).toNat) true), v94, ⟨by omega, hF2.add ⟨by omega, by omega⟩ ⟨by omega, by omega⟩ a7 a6 hi2 (adj_near hb2 (by omega) a1 (fun e => by have := (hF2.on i hi2).2.2; simp only [qc] at this; rw [e.1, e.2, Int.add_zero, Int.add_zero, this] at a7; cases a7) a2 a3), hD2.add hi2 (fun c hc => on_set hl2 ⟨by omega, by omega⟩ ⟨by omega, by omega⟩ hc), on_set hl2 ⟨by omega, by omega⟩ ⟨by omega, by omega⟩ h02, by simp; omega, by rw [gd_app_l hi2]; exact hq2, by rw [← hq2] at hN2 ⊢; exact hN2.take hl2 hb2 (by omega) (by omega)⟩, ⟨rfl, rfl, trivial⟩, ⟨rfl, rfl, rfl, rfl, rfl, trivial⟩, (Cv.p (C := osl 4 boolT v17 (O2.set (((gd Q2 i).2 + dy).toNat * 80 + ((gd Q2 i).1 + dx).toNat) true) :: osl 210 ptT v94 (Q2.map ptOf ++ [⟨(gd Q2 i).1 - 40 + dx, (gd Q2 i).2 - 40 + dy⟩]) :: L)).trans (Cv.cast (by rw [List.map_append, ← ep]; rfl)), by omega⟩
          · have h6 : (dx ≠ 0 ∧ dy ≠ 0) ∨ (gd Q2 i).1 + dx < 0 ∨ (gd Q2 i).2 + dy < 0 ∨ (gd Q2 i).1 + dx ≥ 80 ∨ (gd Q2 i).2 + dy ≥ 80 ∨ gb S ((gd Q2 i).2 + dy).toNat ((gd Q2 i).1 + dx).toNat = false ∨ gb O2 ((gd Q2 i).2 + dy).toNat ((gd Q2 i).1 + dx).toNat = true := by
              have hn : ¬ _ := fun hh => by rw [hcon.2 hh] at h5; cases h5
              by_cases c1 : dx = 0 ∨ dy = 0
              · by_cases c2 : 0 ≤ (gd Q2 i).1 + dx ∧ 0 ≤ (gd Q2 i).2 + dy ∧ (gd Q2 i).1 + dx < 80 ∧ (gd Q2 i).2 + dy < 80
                · cases c3 : gb S ((gd Q2 i).2 + dy).toNat ((gd Q2 i).1 + dx).toNat
                  · simp
                  · cases c4 : gb O2 ((gd Q2 i).2 + dy).toNat ((gd Q2 i).1 + dx).toNat
                    · exact absurd ⟨c1, c2, c3, c4⟩ hn
                    · simp
                · omega
              · omega
            refine WP.skip ?_
            refine WP.region ?_
            refine RG.pv rfl (PV.mvI (.inl rfl) rfl) ?_
            refine RG.pv rfl (PV.add rfl rfl rfl (by omega)) ?_
            refine RG.pv rfl (PV.mvI (.inr rfl) rfl) ?_
            refine RG.nil ?_
            exact ⟨rfl, dx + 1, Q2, O2, qv2, ⟨by omega, hF2, hD2, h02, hi2, hq2, by rw [← hq2] at hN2 ⊢; exact hN2.skip hb2 h6⟩, ⟨rfl, rfl, trivial⟩, ⟨rfl, rfl, rfl, rfl, rfl, trivial⟩, Cv.p, by omega⟩
      · have h4 := of_decide_eq_false h4
        refine WP.exit ?_
        refine WP.region ?_
        refine RG.pv rfl (PV.mvI (.inl rfl) rfl) ?_
        refine RG.pv rfl (PV.add rfl rfl rfl (by omega)) ?_
        refine RG.pv rfl (PV.mvI (.inr rfl) rfl) ?_
        refine RG.nil ?_
        exact ⟨rfl, dy + 1, Q2, O2, qv2, ⟨by omega, hF2, hD2, h02, hi2, hq2, by obtain rfl : dx = 2 := (by omega); exact hN2.next⟩, ⟨rfl, rfl, trivial⟩, ⟨rfl, rfl, rfl, rfl, trivial⟩, Cv.p, by omega⟩
    · have h3 := of_decide_eq_false h3
      refine WP.exit ?_
      refine WP.region ?_
      refine RG.pv rfl (PV.mvI (.inl rfl) rfl) ?_
      refine RG.pv rfl (PV.add rfl rfl rfl (by omega)) ?_
      refine RG.pv rfl (PV.mvI (.inr rfl) rfl) ?_
      refine RG.nil ?_
      exact ⟨rfl, i + 1, Q1, O1, qv1, ⟨by omega, hF1, hD1.next (by rw [hq1]) (by obtain rfl : dy = 2 := (by omega); exact hN1), h01⟩, ⟨rfl, rfl, trivial⟩, ⟨rfl, rfl, rfl, trivial⟩, Cv.p, by omega⟩
  · have h2 := of_decide_eq_false h2
    obtain rfl : i = Q.length := by omega
    rw [← hF.final hseed h0 hD] at k
    refine WP.exit ?_
    refine WP.seq ?_
    refine WP.region ?_
    refine RG.pv rfl (PV.move (v := v17) rfl rfl) ?_
    refine RG.pv rfl (PV.asg (v := v17) rfl rfl) ?_
    refine RG.nil ?_
    refine WP.ret ?_
    exact ⟨_, _, ResV.one rfl rfl, Cv.p, k v17⟩
/-- of the cells of S, those of D are done -/
def leftB (S D : List Bool) : List Bool := zipB (fun p q => p && !q) S D
theorem gb_left {S D : List Bool} (hS : S.length = 6400) (hD : D.length = 6400) {y x : Nat} (hy : y < 80) (hx : x < 80) : gb (leftB S D) y x = (gb S y x && !gb D y x) := gb_zip hS hD hy hx
theorem leftB_len {S D : List Bool} (hS : S.length = 6400) (hD : D.length = 6400) : (leftB S D).length = 6400 := zipB_len hS hD
theorem flood7n_s {v : Value} {S : List Bool} {x y : Nat} (h1 : Rs G L boolT v S) (hS : S.length = 6400) (hx : x < 80) (hy : y < 80) (hon : gb S y x = true)
    (k : ∀ v', R v' G (osl 4 boolT v' (compB S (y, x)) :: L)) : CallT Tryz.prog 258 #[v, vi ((x : Int) - 40), vi ((y : Int) - 40), .bool false] G L R :=
  flood7_s (x := (x : Int)) (y := (y : Int)) h1 hS (by omega) (by omega) (by rw [Int.toNat_natCast, Int.toNat_natCast]; exact hon) (by rw [Int.toNat_natCast, Int.toNat_natCast]; exact k)
theorem parts7_s {v : Value} {S : List Bool} (h1 : Rs G L boolT v S) (hS : S.length = 6400) (k : ∀ v' zs, er zs = comps S → R v' G (osl 149 slT v' zs :: bagS 4 boolT zs :: L)) : CallT Tryz.prog 240 #[v, .bool false] G L R := by
  have hrl : (List.replicate S.length false).length = 6400 := by simp [hS]
  have hl0 : leftB S (List.replicate 6400 false) = S := gb_ext (leftB_len hS List.length_replicate) hS fun y x hy hx => by
    rw [gb_left hS List.length_replicate hy hx, gb_rep']; simp
  refine CallT.enter (args := _) Tryz.func240 rfl rfl (by kernel_rfl) rfl ?_
  refine WP.seq ?_
  refine WP.region ?_
  refine RG.pv rfl (PV.asg rfl rfl) ?_
  refine RG.nil ?_
  refine WP.seq ?_
  refine WP.region ?_
  refine RG.ot rfl (OT.bslice (F := (slT (α := Bool))) (els := []) rfl El178 rfl (by decide) rfl (by decide) trivial fun v10 => ?_)
  refine RG.pv rfl (PV.asg (v := v10) rfl rfl) ?_
  refine RG.nil ?_
  refine WP.seq ?_
  refine WP.region ?_
  refine RG.pv rfl (PV.move (v := v) rfl rfl) ?_
  refine RG.pv rfl (PV.len (v := v) rfl Tryz.underlying149 rfl (SlF.r h1)) ?_
  refine RG.ot rfl (OT.make (F := boolT) (a0 := false) rfl El149 rfl (by decide) rfl rfl (by omega) (by omega) fun v13 => ?_)
  refine RG.pv rfl (PV.asg (v := v13) rfl rfl) ?_
  refine RG.nil ?_
  refine WP.seq ?_
  refine WP.seq ?_
  refine WP.region ?_
  refine RG.pv rfl (PV.mvI (.inr rfl) rfl) ?_
  refine RG.nil ?_
  refine WP.block ?_
  refine WP.cv (((Cv.p (C := osl 149 slT v10 ([] : List (Sl Bool)) :: osl 4 boolT v13 (List.replicate S.length false) :: L)).trans (Cv.cons (Cv.bag0 (e := 4) (F := boolT) (xs := []) rfl)))) ?_
  refine WP.loop5 [0, 1] (fun (yy : Int) (D : List Bool) (zs : List (Sl Bool)) (q : Value) (dv : Value) => (-40 ≤ yy ∧ yy ≤ 40) ∧ D.length = 6400 ∧ PI id S ((yy + 40).toNat * 80) (leftB S D) (er zs)) (fun (yy : Int) (D : List Bool) (zs : List (Sl Bool)) (q : Value) (dv : Value) => [(7, vi yy), (5, q), (6, dv)]) (fun (yy : Int) (D : List Bool) (zs : List (Sl Bool)) (q : Value) (dv : Value) => osl 149 slT q zs :: bagS 4 boolT zs :: osl 4 boolT dv D :: L) (fun (yy : Int) (D : List Bool) (zs : List (Sl Bool)) (q : Value) (dv : Value) => (40 - yy).toNat) (-40) (List.replicate S.length false) [] v10 v13 ⟨by omega, hrl, by rw [hS, hl0]; exact PI.start hS⟩ ⟨rfl, rfl, rfl, trivial⟩ Cv.p ?_
  rintro yy D zs q dv τ ⟨hy, hDl, hP⟩
  refine WP.seq ?_
  refine WP.seq ?_
  refine WP.region ?_
  refine RG.pv rfl (PV.mvI (.inl rfl) rfl) ?_
  refine RG.pv rfl (PV.lss rfl rfl rfl) ?_
  refine RG.nil ?_
  obtain ⟨y, rfl⟩ : ∃ n : Nat, yy = (n : Int) - 40 := ⟨(yy + 40).toNat, by omega⟩
  rw [show ((y : Int) - 40 + 40).toNat = y by omega] at hP
  refine WP.cond rfl (fun h2 => ?_) (fun h2 => ?_)
  · have h2 := of_decide_eq_true h2
    refine WP.skip ?_
    refine WP.seq ?_
    refine WP.block ?_
    refine WP.seq ?_
    refine WP.region ?_
    refine RG.pv rfl (PV.mvI (.inr rfl) rfl) ?_
    refine RG.nil ?_
    refine WP.block ?_
    refine WP.loop5 [0, 1, 7] (fun (xx : Int) (D1 : List Bool) (zs1 : List (Sl Bool)) (q1 : Value) (dv1 : Value) => (-40 ≤ xx ∧ xx ≤ 40) ∧ D1.length = 6400 ∧ PI id S (y * 80 + (xx + 40).toNat) (leftB S D1) (er zs1)) (fun (xx : Int) (D1 : List Bool) (zs1 : List (Sl Bool)) (q1 : Value) (dv1 : Value) => [(8, vi xx), (5, q1), (6, dv1)]) (fun (xx : Int) (D1 : List Bool) (zs1 : List (Sl Bool)) (q1 : Value) (dv1 : Value) => osl 149 slT q1 zs1 :: bagS 4 boolT zs1 :: osl 4 boolT dv1 D1 :: L) (fun (xx : Int) (D1 : List Bool) (zs1 : List (Sl Bool)) (q1 : Value) (dv1 : Value) => (40 - xx).toNat) (-40) D zs q dv ⟨by omega, hDl, by rw [show ((-40 : Int) + 40).toNat = 0 from rfl]; exact hP⟩ ⟨rfl, rfl, rfl, trivial⟩ Cv.p ?_
    rintro xx D1 zs1 q1 dv1 τ1 ⟨hx, hDl, hP1⟩
    refine WP.seq ?_
    refine WP.seq ?_
    refine WP.region ?_
    refine RG.pv rfl (PV.mvI (.inl rfl) rfl) ?_
    refine RG.pv rfl (PV.lss rfl rfl rfl) ?_
    refine RG.nil ?_
    obtain ⟨x, rfl⟩ : ∃ n : Nat, xx = (n : Int) - 40 := ⟨(xx + 40).toNat, by omega⟩
    rw [show ((x : Int) - 40 + 40).toNat = x by omega] at hP1
    refine WP.cond rfl (fun h3 => ?_) (fun h3 => ?_)
    · have h3 := of_decide_eq_true h3
      have hzl : zs1.length ≤ y * 80 + x := by
        have := congrArg List.length hP1.er
        have h1 := firsts_len S (y * 80 + x)
        rw [er_len, List.length_map] at this; omega
      have e1 : (y * 80 + x) / 80 = y := by omega
      have e2 : (y * 80 + x) % 80 = x := by omega
      have e3 : cel (y * 80 + x) = (y, x) := by rw [cel, e1, e2]
      have e4 : ((x : Int) - 40 + 1 + 40).toNat = x + 1 := by omega
      have hg := gb_left hS hDl (y := y) (x := x) (by omega) (by omega)
      refine WP.skip ?_
      refine WP.seq ?_
      refine WP.block ?_
      refine WP.seq ?_
      refine WP.region ?_
      refine RG.pv rfl (PV.move (v := v) rfl rfl) ?_
      refine RG.pv rfl (PV.mvI (.inl rfl) rfl) ?_
      refine RG.pv rfl (PV.mvI (.inl rfl) rfl) ?_
      refine RG.callF (vs := [_, _]) rfl rfl En189 rfl (l03At_s (by first | omega | (simp at hp; omega)) ?_)
      refine RG.pv rfl (PV.idxS (j := y * 80 + x) (v := v) rfl Is149 rfl (SlF.r h1) rfl (by omega) (by omega)) ?_
      refine RG.pv rfl (PV.loadE1 rfl Sc4 rfl rfl (El.r h1 (getG (by omega))) rfl) ?_
      refine RG.pv rfl (PV.mvB (.inl rfl) rfl) ?_
      refine RG.gs rfl rfl rfl (fun hp => (PV.move (v := dv1) rfl rfl)) ?_
      refine RG.gs rfl rfl rfl (fun hp => (PV.mvI (.inl rfl) rfl)) ?_
      refine RG.gs rfl rfl rfl (fun hp => (PV.mvI (.inl rfl) rfl)) ?_
      refine RG.gsC rfl rfl rfl rfl En189 (fun hp => ⟨_, (acons (gs_t hp) (acons (gs_t hp) anil)), l03At_s (by first | omega | (simp at hp; omega)) ⟨rfl, rfl, rfl⟩⟩) ?_
      refine RG.gs rfl rfl rfl (fun hp => (PV.idxS (j := y * 80 + x) (v := dv1) rfl Is149 (gs_t hp) SlF.o (gs_t hp) (by first | omega | (simp [within, hasI] at hp; omega)) (by first | omega | (simp [within, hasI] at hp; omega)))) ?_
      refine RG.gs rfl rfl rfl (fun hp => (PV.loadE1 rfl Sc4 (gs_t hp) rfl (El.o (getG (by first | omega | (simp [within, hasI] at hp; omega)))) rfl)) ?_
      refine RG.gs rfl rfl rfl (fun hp => (PV.not rfl (gs_t hp))) ?_
      refine RG.pv rfl (PV.pickA rfl rfl (fun hq => gs_t (geqT hq)) rfl) ?_
      refine RG.nil ?_
      refine WP.cond rfl (fun h4 => ?_) (fun h4 => ?_)
      · have h6 : gb (leftB S D1) y x = true := by rw [hg]; exact h4
        have h5 : gb S y x = true := by rw [hg, Bool.and_eq_true] at h6; exact h6.1
        refine WP.seq ?_
        refine WP.region ?_
        refine RG.pv rfl (PV.move (v := v) rfl rfl) ?_
        refine RG.pv rfl (PV.mvI (.inl rfl) rfl) ?_
        refine RG.pv rfl (PV.mvI (.inl rfl) rfl) ?_
        refine RG.pv rfl (PV.mvB (.inl rfl) rfl) ?_
        refine RG.callF (vs := [v, _, _, _]) rfl rfl En258 rfl (flood7n_s (Rs.up h1) hS (by omega) (by omega) h5 (fun v41 => ?_))
        refine RG.pv rfl (PV.asg (v := v41) rfl rfl) ?_
        refine RG.nil ?_
        refine WP.seq ?_
        refine WP.region ?_
        refine RG.pv rfl (PV.move (v := dv1) rfl rfl) ?_
        refine RG.pv rfl (PV.move (v := v41) rfl rfl) ?_
        refine RG.callF (vs := [dv1, v41, _]) rfl rfl En212 rfl (l04Combine_s Rs.o Rs.o hDl (compB_len _ _) (by omega) (fun v44 => ?_))
        refine RG.pv rfl (PV.asg (v := v44) rfl rfl) ?_
        refine RG.nil ?_
        refine WP.region ?_
        refine RG.pv rfl (PV.move (v := q1) rfl rfl) ?_
        refine RG.pv rfl (PV.move (v := v41) rfl rfl) ?_
        refine RG.ot rfl (OT.bslice (F := (slT (α := Bool))) (els := [⟨v41, compB S (y, x)⟩]) rfl El178 rfl (by decide) rfl (by decide) ⟨rfl, (Cl.s (v := v41) SlF.o), trivial⟩ fun v47 => ?_)
        refine RG.ot rfl (OT.append (v := q1) (u := v47) (F := (slT (α := Bool))) rfl El178 rfl (by decide) rfl rfl Rs.o (OneL.one (OneC.sl SlF.o OneC.nil)) rfl (by first | omega | (simp <;> omega)) fun v48 => ?_)
        refine RG.pv rfl (PV.asg (v := v48) rfl rfl) ?_
        refine RG.nil ?_
        refine WP.region ?_
        refine RG.pv rfl (PV.mvI (.inl rfl) rfl) ?_
        refine RG.pv rfl (PV.add rfl rfl rfl (by omega)) ?_
        refine RG.pv rfl (PV.mvI (.inr rfl) rfl) ?_
        refine RG.nil ?_
        have hcm := hP1.comp (n := y * 80 + x) (by omega) (by rw [e1, e2]; exact h6)
        rw [e3] at hcm
        refine ⟨rfl, (x : Int) - 40 + 1, (zipB (opF 14) D1 (compB S (y, x))), (zs1 ++ [⟨v41, compB S (y, x)⟩]), v48, v44, ⟨by omega, zipB_len hDl (compB_len _ _), ?_⟩, ⟨rfl, rfl, rfl, trivial⟩, ⟨rfl, rfl, rfl, trivial⟩, ((Cv.p (C := osl 4 boolT v41 (compB S (y, x)) :: bagS 4 boolT zs1 :: osl 149 slT v48 (zs1 ++ [⟨v41, compB S (y, x)⟩]) :: osl 4 boolT v44 (zipB (opF 14) D1 (compB S (y, x))) :: L)).trans (Cv.bagS_add.trans Cv.p)), by omega⟩
        rw [e4, er, List.map_append]
        have hk := hP1.take (T' := leftB S (zipB (opF 14) D1 (compB S (y, x)))) (n := y * 80 + x) (by omega) (by rw [e1, e2]; exact h6) (leftB_len hS (zipB_len hDl (compB_len _ _))) (fun y' x' hy' hx' => by
          rw [gb_left hS (zipB_len hDl (compB_len _ _)) hy' hx', gb_left hS hDl hy' hx', gb_zip hDl (compB_len _ _) hy' hx', e3, hcm, show ∀ a b : Bool, opF 14 a b = (a || b) by decide]
          cases gb S y' x' <;> cases gb D1 y' x' <;> simp)
        rw [e3, hcm] at hk
        exact hk
      · have h6 : gb (leftB S D1) y x = false := by rw [hg]; exact h4
        refine WP.skip ?_
        refine WP.region ?_
        refine RG.pv rfl (PV.mvI (.inl rfl) rfl) ?_
        refine RG.pv rfl (PV.add rfl rfl rfl (by omega)) ?_
        refine RG.pv rfl (PV.mvI (.inr rfl) rfl) ?_
        refine RG.nil ?_
        exact ⟨rfl, (x : Int) - 40 + 1, D1, zs1, q1, dv1, ⟨by omega, hDl, by rw [e4]; exact hP1.skip (by omega) (by rw [e1, e2]; exact h6)⟩, ⟨rfl, rfl, rfl, trivial⟩, ⟨rfl, rfl, rfl, trivial⟩, Cv.p, by omega⟩
    · have h3 := of_decide_eq_false h3
      obtain rfl : x = 80 := by omega
      refine WP.exit ?_
      refine WP.region ?_
      refine RG.pv rfl (PV.mvI (.inl rfl) rfl) ?_
      refine RG.pv rfl (PV.add rfl rfl rfl (by omega)) ?_
      refine RG.pv rfl (PV.mvI (.inr rfl) rfl) ?_
      refine RG.nil ?_
      exact ⟨rfl, (y : Int) - 40 + 1, D1, zs1, q1, dv1, ⟨by omega, hDl, by rw [show ((y : Int) - 40 + 1 + 40).toNat = y + 1 by omega, Nat.add_mul]; exact hP1⟩, ⟨rfl, rfl, rfl, trivial⟩, ⟨rfl, rfl, trivial⟩, Cv.p, by omega⟩
  · have h2 := of_decide_eq_false h2
    obtain rfl : y = 80 := by omega
    have hz := hP.all
    refine WP.exit ?_
    refine WP.seq ?_
    refine WP.region ?_
    refine RG.pv rfl (PV.move (v := q) rfl rfl) ?_
    refine RG.pv rfl (PV.asg (v := q) rfl rfl) ?_
    refine RG.nil ?_
    refine WP.ret ?_
    exact ⟨_, _, ResV.one rfl rfl, Cv.p, k q zs hz⟩
theorem comps7_s {v : Value} {xs : List Rect} (h1 : Rs G L rectT v xs) (hv : validRs xs = true) (k : ∀ v' zs, er zs = partsL (bits xs) → R v' G (osl 35 slT v' zs :: bagS 101 rectT zs :: L)) : CallT Tryz.prog 210 #[v] G L R := by
  refine CallT.enter (args := _) Tryz.func210 rfl rfl (by kernel_rfl) rfl ?_
  refine WP.seq ?_
  refine WP.region ?_
  refine RG.pv rfl (PV.asg rfl rfl) ?_
  refine RG.nil ?_
  refine WP.seq ?_
  refine WP.region ?_
  refine RG.ot rfl (OT.bslice (F := (slT (α := Rect))) (els := []) rfl El50 rfl (by decide) rfl (by decide) trivial fun v6 => ?_)
  refine RG.pv rfl (PV.asg (v := v6) rfl rfl) ?_
  refine RG.nil ?_
  refine WP.seq ?_
  refine WP.region ?_
  refine RG.pv rfl (PV.move (v := v) rfl rfl) ?_
  refine RG.callF (vs := [v]) rfl rfl En134 rfl (l03Bits_s (Rs.up h1) (fun j hj => valid_get hv hj) (fun v8 => ?_))
  refine RG.callF (vs := [v8, _]) rfl rfl En240 rfl (parts7_s Rs.o (bits_length _) (fun v9 zsv9 hev9 => ?_))
  refine RG.pv rfl (PV.asg (v := v9) rfl rfl) ?_
  refine RG.nil ?_
  refine WP.seq ?_
  refine WP.seq ?_
  refine WP.region ?_
  refine RG.pv rfl (PV.mvI (.inr rfl) rfl) ?_
  refine RG.nil ?_
  refine WP.block ?_
  have hzl : zsv9.length ≤ 6400 := by
    have := congrArg List.length hev9
    have h2 := comps_len (bits xs)
    rw [er_len] at this; omega
  refine WP.cv (((Cv.p (C := osl 35 slT v6 ([] : List (Sl Rect)) :: osl 149 slT v9 zsv9 :: bagS 4 boolT zsv9 :: L)).trans (Cv.cons (Cv.bag0 (e := 101) (F := rectT) (xs := []) rfl)))) ?_
  refine WP.loop3 [4] (fun (i : Nat) (ys : List (Sl Rect)) (q : Value) => i ≤ zsv9.length ∧ er ys = ((er zsv9).take i).map canon) (fun (i : Nat) (ys : List (Sl Rect)) (q : Value) => [(5, vi i), (3, q)]) (fun (i : Nat) (ys : List (Sl Rect)) (q : Value) => osl 35 slT q ys :: bagS 101 rectT ys :: osl 149 slT v9 zsv9 :: bagS 4 boolT zsv9 :: L) (fun (i : Nat) (ys : List (Sl Rect)) (q : Value) => zsv9.length - i) 0 [] v6 ⟨by omega, rfl⟩ ⟨rfl, rfl, trivial⟩ Cv.p ?_
  rintro i ys q τ ⟨hi, hys⟩
  refine WP.seq ?_
  refine WP.seq ?_
  refine WP.region ?_
  refine RG.pv rfl (PV.mvI (.inl rfl) rfl) ?_
  refine RG.pv rfl (PV.move (v := v9) rfl rfl) ?_
  refine RG.pv rfl (PV.len (v := v9) rfl Tryz.underlying178 rfl SlF.o) ?_
  refine RG.pv rfl (PV.lss rfl rfl rfl) ?_
  refine RG.nil ?_
  have hyl : ys.length = i := by
    have := congrArg List.length hys
    rw [er_len, List.length_map, List.length_take, er_len] at this; omega
  refine WP.cond rfl (fun h3 => ?_) (fun h3 => ?_)
  · have h3 := of_decide_eq_true h3
    have hci : (gd zsv9 i).xs.length = 6400 := by
      have e : (gd zsv9 i).xs ∈ comps (bits xs) := by rw [← hev9, ← er_gd]; rw [gd_eq (by rw [er_len]; omega)]; exact List.getElem_mem _
      obtain ⟨j0, _, e2⟩ := List.mem_map.1 e
      rw [← e2]; exact compB_len _ _
    refine WP.skip ?_
    refine WP.seq ?_
    refine WP.block ?_
    refine WP.region ?_
    refine RG.pv rfl (PV.move (v := q) rfl rfl) ?_
    refine RG.pv rfl (PV.move (v := v9) rfl rfl) ?_
    refine RG.pv rfl (PV.mvI (.inl rfl) rfl) ?_
    refine RG.pv rfl (PV.idxS (v := v9) rfl Is178 rfl SlF.o rfl rfl (by omega)) ?_
    refine RG.pv rfl (PV.loadE1 rfl Sc149 rfl rfl (El.o (getG (by omega))) rfl) ?_
    refine RG.callF (vs := [_]) rfl rfl En133 rfl (l03Canon_s (Rs.inBag (xs := zsv9) i (by omega)) hci (fun v21 => ?_))
    refine RG.ot rfl (OT.bslice (F := (slT (α := Rect))) (els := [⟨v21, canon (gd zsv9 i).xs⟩]) rfl El50 rfl (by decide) rfl (by decide) ⟨rfl, (Cl.s (v := v21) SlF.o), trivial⟩ fun v22 => ?_)
    refine RG.ot rfl (OT.append (v := q) (u := v22) (F := (slT (α := Rect))) rfl El50 rfl (by decide) rfl rfl Rs.o (OneL.one (OneC.sl SlF.o OneC.nil)) rfl (by first | omega | (simp <;> omega)) fun v23 => ?_)
    refine RG.pv rfl (PV.asg (v := v23) rfl rfl) ?_
    refine RG.nil ?_
    refine WP.region ?_
    refine RG.pv rfl (PV.mvI (.inl rfl) rfl) ?_
    refine RG.pv rfl (PV.add rfl rfl rfl (by omega)) ?_
    refine RG.pv rfl (PV.mvI (.inr rfl) rfl) ?_
    refine RG.nil ?_
    refine ⟨rfl, i + 1, (ys ++ [⟨v21, canon (gd zsv9 i).xs⟩]), v23, ⟨by omega, ?_⟩, ⟨rfl, rfl, trivial⟩, ⟨rfl, trivial⟩, ((Cv.p (C := osl 101 rectT v21 (canon (gd zsv9 i).xs) :: bagS 101 rectT ys :: osl 35 slT v23 (ys ++ [⟨v21, canon (gd zsv9 i).xs⟩]) :: osl 149 slT v9 zsv9 :: bagS 4 boolT zsv9 :: L)).trans (Cv.bagS_add.trans Cv.p)), by omega⟩
    rw [List.take_add_one, getG (by rw [er_len]; omega), List.map_append, ← hys, er_gd, er, List.map_append]; rfl
  · have h3 := of_decide_eq_false h3
    rw [List.take_of_length_le (by rw [er_len]; omega), hev9] at hys
    refine WP.exit ?_
    refine WP.seq ?_
    refine WP.region ?_
    refine RG.pv rfl (PV.move (v := q) rfl rfl) ?_
    refine RG.pv rfl (PV.asg (v := q) rfl rfl) ?_
    refine RG.nil ?_
    refine WP.ret ?_
    exact ⟨_, _, ResV.one rfl rfl, Cv.p, k q ys hys⟩
noncomputable def partN (r : List Rect) : Nat := (partsL (bits r)).length
noncomputable def connR (r : List Rect) : Bool := isReg r && decide (partN r = 1)
theorem compN_s {v : Value} {xs : List Rect} (h1 : Rs G L rectT v xs) (k : R (vi (if isReg xs = true then (partN xs : Int) else -1)) G L) : CallT Tryz.prog 179 #[v] G L R := by
  refine CallT.enter (args := _) Tryz.func179 rfl rfl (by kernel_rfl) rfl ?_
  refine WP.seq ?_
  refine WP.region ?_
  refine RG.pv rfl (PV.mvI (.inr rfl) rfl) ?_
  refine RG.nil ?_
  refine WP.seq ?_
  refine WP.seq ?_
  refine WP.region ?_
  refine RG.pv rfl (PV.move (v := v) rfl rfl) ?_
  refine RG.callF (vs := [v]) rfl rfl En68 rfl (l03Ok_s (Rs.up h1) ?_)
  refine RG.pv rfl (PV.not rfl rfl) ?_
  refine RG.nil ?_
  refine WP.cond rfl (fun h2 => ?_) (fun h2 => ?_)
  · rw [if_neg (by simpa using h2)] at k
    refine WP.seq ?_
    refine WP.region ?_
    refine RG.pv rfl (PV.mvI (.inr rfl) rfl) ?_
    refine RG.nil ?_
    refine WP.ret ?_
    exact ⟨_, _, ResV.one rfl rfl, Cv.p, k⟩
  · have hreg : isReg xs = true := by simpa using h2
    rw [if_pos hreg] at k
    refine WP.skip ?_
    refine WP.seq ?_
    refine WP.region ?_
    refine RG.pv rfl (PV.move (v := v) rfl rfl) ?_
    refine RG.callF (vs := [v]) rfl rfl En210 rfl (comps7_s (Rs.up h1) (isReg_valid hreg) (fun v7 zsv7 hev7 => ?_))
    refine RG.pv rfl (PV.len (v := v7) rfl Tryz.underlying50 rfl SlF.o) ?_
    refine RG.pv rfl (PV.mvI (.inr rfl) rfl) ?_
    refine RG.nil ?_
    refine WP.ret ?_
    have e : partN xs = zsv7.length := by rw [partN, ← hev7, er_len]
    rw [e] at k
    exact ⟨_, _, ResV.one rfl rfl, Cv.p, k⟩
theorem connR_s {v : Value} {xs : List Rect} (h1 : Rs G L rectT v xs) (k : R (.bool (connR xs)) G L) : CallT Tryz.prog 122 #[v] G L R := by
  have e : connR xs = decide ((if isReg xs = true then (partN xs : Int) else -1) = 1) := by
    rw [connR, Bool.eq_iff_iff]
    cases isReg xs <;> simp; omega
  rw [e] at k
  refine CallT.enter (args := _) Tryz.func122 rfl rfl (by kernel_rfl) rfl ?_
  refine WP.seq ?_
  refine WP.region ?_
  refine RG.pv rfl (PV.mvB (.inr rfl) rfl) ?_
  refine RG.nil ?_
  refine WP.seq ?_
  refine WP.region ?_
  refine RG.pv rfl (PV.move (v := v) rfl rfl) ?_
  refine RG.callF (vs := [v]) rfl rfl En179 rfl (compN_s (Rs.up h1) ?_)
  refine RG.pv rfl (PV.eql rfl rfl rfl) ?_
  refine RG.pv rfl (PV.mvB (.inr rfl) rfl) ?_
  refine RG.nil ?_
  refine WP.ret ?_
  exact ⟨_, _, ResV.one rfl rfl, Cv.p, k⟩
theorem connR_i {v : Value} {xs : List Rect} (h1 : Rs G L rectT v xs) (k : R (.bool (connR xs)) G L) : CallT Tryz.prog 127 #[v] G L R := by
  refine CallT.enter (args := _) Tryz.func127 rfl rfl (by kernel_rfl) rfl ?_
  refine WP.seq ?_
  refine WP.region ?_
  refine RG.pv rfl (PV.mvB (.inr rfl) rfl) ?_
  refine RG.nil ?_
  refine WP.seq ?_
  refine WP.region ?_
  refine RG.pv rfl (PV.move (v := v) rfl rfl) ?_
  refine RG.callF (vs := [v]) rfl rfl En73 rfl (isRegion_s (Rs.up h1) ?_)
  refine RG.pv rfl (PV.mvB (.inl rfl) rfl) ?_
  refine RG.spl (t := 5) rfl (fun g => ?_) (fun g => ?_)
  · refine RG.take rfl rfl rfl g ?_
    refine RG.pv rfl (PV.move (v := v) rfl rfl) ?_
    refine RG.take rfl rfl rfl g ?_
    refine RG.callF (vs := [v]) rfl rfl En182 rfl (components_s (Rs.up h1) (fun v7 zsv7 hev7 => ?_))
    refine RG.take rfl rfl rfl g ?_
    refine RG.pv rfl (PV.len (v := v7) rfl Tryz.underlying50 rfl SlF.o) ?_
    refine RG.take rfl rfl rfl g ?_
    refine RG.pv rfl (PV.eql rfl rfl rfl) ?_
    refine RG.pv rfl (PV.pickT rfl rfl g rfl) ?_
    refine RG.pv rfl (PV.mvB (.inr rfl) rfl) ?_
    refine RG.nil ?_
    refine WP.ret ?_
    have e : connR xs = decide ((zsv7.length : Int) = 1) := by
      rw [connR, g, partN, ← hev7, er_len, Bool.true_and, decide_eq_decide]; omega
    rw [e] at k
    exact ⟨_, _, ResV.one rfl rfl, Cv.p, k⟩
  · have e : connR xs = false := by rw [connR, g]; rfl
    rw [e] at k
    refine RG.skip rfl rfl rfl (gne g) ?_
    refine RG.skip rfl rfl rfl (gne g) ?_
    refine RG.skip rfl rfl rfl (gne g) ?_
    refine RG.skip rfl rfl rfl (gne g) ?_
    refine RG.pv rfl (PV.pickE rfl rfl g rfl) ?_
    refine RG.pv rfl (PV.mvB (.inr rfl) rfl) ?_
    refine RG.nil ?_
    refine WP.ret ?_
    exact ⟨_, _, ResV.one rfl rfl, Cv.p, k⟩
end Go.Proofs.YtgngpegmaceaiaaGreat
namespace Go.Proofs.YtgngpegmaceaiaaGreat
set_option linter.unusedVariables false
set_option linter.unusedSimpArgs false
open Go
set_option maxRecDepth 20000
set_option linter.unusedSimpArgs false
variable {G : Gh} {L : List Ch} {R : Value → Gh → List Ch → Prop}
/-- only what lies in memory matters -/
theorem Cv.flat {α : Type} {e : TypeId} {F : FT α} {v : Value} {xs ys : List α} {L : List Ch} (h : F.flat xs = F.flat ys) (hl : xs.length = ys.length) : Cv (osl e F v xs :: L) (osl e F v ys :: L) :=
  Cv.imp fun hp hc => by
    rcases hc with ⟨rfl, rfl⟩ | ⟨b, cap, c, h1, h2, h3, h4, h5, h6⟩
    · exact .inl ⟨rfl, List.eq_nil_of_length_eq_zero (by simpa using hl.symm)⟩
    · exact .inr ⟨b, cap, c, by rw [← hl]; exact h1, h2, by rw [← hl]; exact h3, h4, h5, by rw [← hl, ← h]; exact h6⟩
end Go.Proofs.YtgngpegmaceaiaaGreat
namespace Go.Proofs.YtgngpegmaceaiaaGreat
set_option linter.unusedVariables false
set_option linter.unusedSimpArgs false
open Go
set_option maxRecDepth 20000
set_option linter.unusedSimpArgs false
variable {G : Gh} {L : List Ch} {R : Value → Gh → List Ch → Prop}
def mks (xs : List Viol) : List (Sl Rect) := xs.map Viol.marker
theorem mks_len (xs : List Viol) : (mks xs).length = xs.length := by simp [mks]
theorem mks_gd {xs : List Viol} {i : Nat} (h : i < xs.length) : gd (mks xs) i = (gd xs i).marker := gd_map _ h
theorem RsE.marker {xs : List Viol} (h : RsE G L rectT (mks xs)) {i : Nat} (hi : i < xs.length) : Rs G L rectT (gd xs i).marker.v (gd xs i).marker.xs := by
  have := h i (by rw [mks_len]; exact hi); rwa [mks_gd hi] at this
def erV (p : Viol) : Int × List Rect := (p.rule, p.marker.xs)
def erVs (xs : List Viol) : List (Int × List Rect) := xs.map erV
theorem erVs_len (xs : List Viol) : (erVs xs).length = xs.length := by simp [erVs]
theorem erVs_gd {xs : List Viol} {i : Nat} (h : i < xs.length) : gd (erVs xs) i = erV (gd xs i) := gd_map _ h
end Go.Proofs.YtgngpegmaceaiaaGreat
namespace Go.Proofs.YtgngpegmaceaiaaGreat
set_option linter.unusedVariables false
set_option linter.unusedSimpArgs false
open Go
set_option maxRecDepth 20000
set_option linter.unusedSimpArgs false
variable {G : Gh} {L : List Ch} {R : Value → Gh → List Ch → Prop}
abbrev vrule (r : Rule) : Value := vT ruleT r
def paired (k : Int) : Bool := decide (k = 2) || decide (k = 3)
def okVal (r : Rule) : Bool := if r.kind = 4 then within r.value 1 6400 else if r.kind = 5 then within r.value 4 40 else within r.value 1 8
def okPct (r : Rule) : Bool := if r.kind = 5 then within r.percent 1 100 else decide (r.percent = 0)
def okOther (r : Rule) : Bool := bif paired r.kind then within r.other 0 7 && !decide (r.other = r.layer) else decide (r.other = 0)
def validRule (r : Rule) : Bool := within r.kind 0 5 && within r.layer 0 7 && okOther r && okVal r && okPct r
theorem l16In_s {a b c : Int} (k : R (.bool (within a b c)) G L) : CallT Tryz.prog 104 #[vi a, vi b, vi c] G L R := by
  refine CallT.enter (args := _) Tryz.func104 rfl rfl (by kernel_rfl) rfl ?_
  refine WP.seq ?_
  refine WP.region ?_
  refine RG.pv rfl (PV.mvB (.inr rfl) rfl) ?_
  refine RG.nil ?_
  refine WP.seq ?_
  refine WP.region ?_
  refine RG.pv rfl (PV.mvI (.inl rfl) rfl) ?_
  refine RG.pv rfl (PV.mvI (.inl rfl) rfl) ?_
  refine RG.pv rfl (PV.geq rfl rfl rfl) ?_
  refine RG.pv rfl (PV.mvB (.inl rfl) rfl) ?_
  refine RG.gs rfl rfl rfl (fun hp => (PV.mvI (.inl rfl) rfl)) ?_
  refine RG.gs rfl rfl rfl (fun hp => (PV.mvI (.inl rfl) rfl)) ?_
  refine RG.gs rfl rfl rfl (fun hp => (PV.leq rfl (gs_t hp) (gs_t hp))) ?_
  refine RG.pv rfl (PV.pickA rfl rfl (fun hq => gs_t (geqT hq)) rfl) ?_
  refine RG.pv rfl (PV.mvB (.inr rfl) rfl) ?_
  refine RG.nil ?_
  refine WP.ret ?_
  exact ⟨_, _, ResV.one rfl rfl, Cv.p, k⟩
theorem l16Paired_s {a : Int} (k : R (.bool (paired a)) G L) : CallT Tryz.prog 106 #[vi a] G L R := by
  refine CallT.enter (args := _) Tryz.func106 rfl rfl (by kernel_rfl) rfl ?_
  refine WP.seq ?_
  refine WP.region ?_
  refine RG.pv rfl (PV.mvB (.inr rfl) rfl) ?_
  refine RG.nil ?_
  refine WP.seq ?_
  refine WP.region ?_
  refine RG.pv rfl (PV.mvI (.inl rfl) rfl) ?_
  refine RG.pv rfl (PV.eql rfl rfl rfl) ?_
  refine RG.pv rfl (PV.mvB (.inl rfl) rfl) ?_
  refine RG.gs rfl rfl rfl (fun hp => (PV.mvI (.inl rfl) rfl)) ?_
  refine RG.gs rfl rfl rfl (fun hp => (PV.eql rfl (gs_t hp) rfl)) ?_
  refine RG.pv rfl (PV.pickO rfl rfl rfl (fun hq => gs_t (geqF hq))) ?_
  refine RG.pv rfl (PV.mvB (.inr rfl) rfl) ?_
  refine RG.nil ?_
  refine WP.ret ?_
  exact ⟨_, _, ResV.one rfl rfl, Cv.p, k⟩
theorem hasOther_s {a : Int} (k : R (.bool (paired a)) G L) : CallT Tryz.prog 107 #[vi a] G L R := by
  refine CallT.enter (args := _) Tryz.func107 rfl rfl (by kernel_rfl) rfl ?_
  refine WP.seq ?_
  refine WP.region ?_
  refine RG.pv rfl (PV.mvB (.inr rfl) rfl) ?_
  refine RG.nil ?_
  refine WP.seq ?_
  refine WP.region ?_
  refine RG.pv rfl (PV.mvI (.inl rfl) rfl) ?_
  refine RG.pv rfl (PV.eql rfl rfl rfl) ?_
  refine RG.pv rfl (PV.mvB (.inl rfl) rfl) ?_
  refine RG.gs rfl rfl rfl (fun hp => (PV.mvI (.inl rfl) rfl)) ?_
  refine RG.gs rfl rfl rfl (fun hp => (PV.eql rfl (gs_t hp) rfl)) ?_
  refine RG.pv rfl (PV.pickO rfl rfl rfl (fun hq => gs_t (geqF hq))) ?_
  refine RG.pv rfl (PV.mvB (.inr rfl) rfl) ?_
  refine RG.nil ?_
  refine WP.ret ?_
  exact ⟨_, _, ResV.one rfl rfl, Cv.p, k⟩
theorem l20Paired_s {r : Rule} (k : R (.bool (paired r.kind)) G L) : CallT Tryz.prog 209 #[vrule r] G L R := by
  refine CallT.enter (args := _) Tryz.func209 rfl rfl (by kernel_rfl) rfl ?_
  refine WP.seq ?_
  refine WP.region ?_
  refine RG.ot rfl (OT.box (cs := ruleT.enc r) rfl rfl rfl fun b1 => ?_)
  refine RG.pv rfl (PV.mvB (.inr rfl) rfl) ?_
  refine RG.nil ?_
  refine WP.seq ?_
  refine WP.region ?_
  refine RG.pv rfl (PV.field rfl Fo52_0 rfl) ?_
  refine RG.pv rfl (PV.load1 rfl Sc2 rfl (Rd.blk rfl)) ?_
  refine RG.pv rfl (PV.eql rfl rfl rfl) ?_
  refine RG.pv rfl (PV.mvB (.inl rfl) rfl) ?_
  refine RG.gs rfl rfl rfl (fun hp => (PV.field rfl Fo52_0 rfl)) ?_
  refine RG.gs rfl rfl rfl (fun hp => (PV.load1 rfl Sc2 (gs_t hp) (Rd.blk rfl))) ?_
  refine RG.gs rfl rfl rfl (fun hp => (PV.eql rfl (gs_t hp) rfl)) ?_
  refine RG.pv rfl (PV.pickO rfl rfl rfl (fun hq => gs_t (geqF hq))) ?_
  refine RG.pv rfl (PV.mvB (.inr rfl) rfl) ?_
  refine RG.nil ?_
  refine WP.ret ?_
  exact ⟨_, _, ResV.one rfl rfl, Cv.p, k⟩
theorem l16Value_s {r : Rule} (k : R (.bool (okVal r)) G L) : CallT Tryz.prog 105 #[vrule r] G L R := by
  refine CallT.enter (args := _) Tryz.func105 rfl rfl (by kernel_rfl) rfl ?_
  refine WP.seq ?_
  refine WP.region ?_
  refine RG.ot rfl (OT.box (cs := ruleT.enc r) rfl rfl rfl fun b1 => ?_)
  refine RG.pv rfl (PV.mvB (.inr rfl) rfl) ?_
  refine RG.nil ?_
  refine WP.seq ?_
  refine WP.seq ?_
  refine WP.region ?_
  refine RG.pv rfl (PV.field rfl Fo52_0 rfl) ?_
  refine RG.pv rfl (PV.load1 rfl Sc2 rfl (Rd.blk rfl)) ?_
  refine RG.nil ?_
  refine WP.block ?_
  refine WP.seq ?_
  refine WP.region ?_
  refine RG.pv rfl (PV.eql rfl rfl rfl) ?_
  refine RG.pv rfl (PV.mvB (.inr rfl) rfl) ?_
  refine RG.nil ?_
  refine WP.cond rfl (fun h1 => ?_) (fun h1 => ?_)
  · have h1 := of_decide_eq_true h1
    rw [okVal, if_pos h1] at k
    refine WP.seq ?_
    refine WP.region ?_
    refine RG.pv rfl (PV.field rfl Fo52_3 rfl) ?_
    refine RG.pv rfl (PV.load1 rfl Sc2 rfl (Rd.blk rfl)) ?_
    refine RG.callF (vs := [_, _, _]) rfl rfl En104 rfl (l16In_s ?_)
    refine RG.pv rfl (PV.mvB (.inr rfl) rfl) ?_
    refine RG.nil ?_
    refine WP.ret ?_
    exact ⟨_, _, ResV.one rfl rfl, Cv.p, k⟩
  · have h1 := of_decide_eq_false h1
    rw [okVal, if_neg h1] at k
    refine WP.seq ?_
    refine WP.region ?_
    refine RG.pv rfl (PV.eql rfl rfl rfl) ?_
    refine RG.pv rfl (PV.mvB (.inr rfl) rfl) ?_
    refine RG.nil ?_
    refine WP.cond rfl (fun h2 => ?_) (fun h2 => ?_)
    · have h2 := of_decide_eq_true h2
      rw [if_pos h2] at k
      refine WP.seq ?_
      refine WP.region ?_
      refine RG.pv rfl (PV.field rfl Fo52_3 rfl) ?_
      refine RG.pv rfl (PV.load1 rfl Sc2 rfl (Rd.blk rfl)) ?_
      refine RG.callF (vs := [_, _, _]) rfl rfl En104 rfl (l16In_s ?_)
      refine RG.pv rfl (PV.mvB (.inr rfl) rfl) ?_
      refine RG.nil ?_
      refine WP.ret ?_
      exact ⟨_, _, ResV.one rfl rfl, Cv.p, k⟩
    · have h2 := of_decide_eq_false h2
      rw [if_neg h2] at k
      refine WP.skip ?_
      refine WP.seq ?_
      refine WP.region ?_
      refine RG.pv rfl (PV.field rfl Fo52_3 rfl) ?_
      refine RG.pv rfl (PV.load1 rfl Sc2 rfl (Rd.blk rfl)) ?_
      refine RG.callF (vs := [_, _, _]) rfl rfl En104 rfl (l16In_s ?_)
      refine RG.pv rfl (PV.mvB (.inr rfl) rfl) ?_
      refine RG.nil ?_
      refine WP.ret ?_
      exact ⟨_, _, ResV.one rfl rfl, Cv.p, k⟩
theorem okOther_false {r : Rule} (h : (paired r.kind && (!within r.other 0 7 || decide (r.other = r.layer)) || !paired r.kind && !decide (r.other = 0)) = true) : okOther r = false := by
  unfold okOther; revert h
  cases paired r.kind <;> cases within r.other 0 7 <;> cases decide (r.other = r.layer) <;> cases decide (r.other = 0) <;> simp
theorem okOther_true {r : Rule} (h : (paired r.kind && (!within r.other 0 7 || decide (r.other = r.layer)) || !paired r.kind && !decide (r.other = 0)) = false) : okOther r = true := by
  unfold okOther; revert h
  cases paired r.kind <;> cases within r.other 0 7 <;> cases decide (r.other = r.layer) <;> cases decide (r.other = 0) <;> simp
theorem validRule_s {r : Rule} (k : R (.bool (validRule r)) G L) : CallT Tryz.prog 51 #[vrule r] G L R := by
  refine CallT.enter (args := _) Tryz.func51 rfl rfl (by kernel_rfl) rfl ?_
  refine WP.seq ?_
  refine WP.region ?_
  refine RG.ot rfl (OT.box (cs := ruleT.enc r) rfl rfl rfl fun b1 => ?_)
  refine RG.pv rfl (PV.mvB (.inr rfl) rfl) ?_
  refine RG.nil ?_
  refine WP.seq ?_
  refine WP.seq ?_
  refine WP.region ?_
  refine RG.pv rfl (PV.field rfl Fo52_0 rfl) ?_
  refine RG.pv rfl (PV.load1 rfl Sc2 rfl (Rd.blk rfl)) ?_
  refine RG.callF (vs := [_, _, _]) rfl rfl En104 rfl (l16In_s ?_)
  refine RG.pv rfl (PV.not rfl rfl) ?_
  refine RG.pv rfl (PV.mvB (.inl rfl) rfl) ?_
  refine RG.gs rfl rfl rfl (fun hp => (PV.field rfl Fo52_1 rfl)) ?_
  refine RG.gs rfl rfl rfl (fun hp => (PV.load1 rfl Sc2 (gs_t hp) (Rd.blk rfl))) ?_
  refine RG.gsC rfl rfl rfl rfl En104 (fun hp => ⟨_, (acons (gs_t hp) (acons rfl (acons rfl anil))), l16In_s ⟨rfl, rfl, rfl⟩⟩) ?_
  refine RG.gs rfl rfl rfl (fun hp => (PV.not rfl (gs_t hp))) ?_
  refine RG.pv rfl (PV.pickO rfl rfl rfl (fun hq => gs_t (geqF hq))) ?_
  refine RG.pv rfl (PV.mvB (.inl rfl) rfl) ?_
  refine RG.gs rfl rfl rfl (fun hp => (PV.loadW rfl Ag52 rfl rfl)) ?_
  refine RG.gsC rfl rfl rfl rfl En105 (fun hp => ⟨_, (acons (gs_t hp) anil), l16Value_s ⟨rfl, rfl, rfl⟩⟩) ?_
  refine RG.gs rfl rfl rfl (fun hp => (PV.not rfl (gs_t hp))) ?_
  refine RG.pv rfl (PV.pickO rfl rfl rfl (fun hq => gs_t (geqF hq))) ?_
  refine RG.nil ?_
  refine WP.cond rfl (fun h1 => ?_) (fun h1 => ?_)
  · have e : validRule r = false := by
      unfold validRule; revert h1
      cases within r.kind 0 5 <;> cases within r.layer 0 7 <;> cases okVal r <;> simp
    rw [e] at k
    refine WP.seq ?_
    refine WP.region ?_
    refine RG.pv rfl (PV.mvB (.inr rfl) rfl) ?_
    refine RG.nil ?_
    refine WP.ret ?_
    exact ⟨_, _, ResV.one rfl rfl, Cv.p, k⟩
  · have e : validRule r = (okOther r && okPct r) := by
      unfold validRule; revert h1
      cases within r.kind 0 5 <;> cases within r.layer 0 7 <;> cases okVal r <;> simp
    rw [e] at k
    refine WP.skip ?_
    refine WP.seq ?_
    refine WP.seq ?_
    refine WP.region ?_
    refine RG.pv rfl (PV.field rfl Fo52_0 rfl) ?_
    refine RG.pv rfl (PV.load1 rfl Sc2 rfl (Rd.blk rfl)) ?_
    refine RG.callF (vs := [_]) rfl rfl En106 rfl (l16Paired_s ?_)
    refine RG.pv rfl (PV.mvB (.inl rfl) rfl) ?_
    refine RG.gs rfl rfl rfl (fun hp => (PV.field rfl Fo52_2 rfl)) ?_
    refine RG.gs rfl rfl rfl (fun hp => (PV.load1 rfl Sc2 (gs_t hp) (Rd.blk rfl))) ?_
    refine RG.gsC rfl rfl rfl rfl En104 (fun hp => ⟨_, (acons (gs_t hp) (acons rfl (acons rfl anil))), l16In_s ⟨rfl, rfl, rfl⟩⟩) ?_
    refine RG.gs rfl rfl rfl (fun hp => (PV.not rfl (gs_t hp))) ?_
    refine RG.gs rfl rfl rfl (fun hp => (PV.mvB (.inl rfl) (gs_t hp))) ?_
    refine RG.gs2 rfl rfl rfl (fun hp => (PV.field rfl Fo52_2 rfl)) ?_
    refine RG.gs2 rfl rfl rfl (fun hp => (PV.load1 rfl Sc2 (gs_t hp) (Rd.blk rfl))) ?_
    refine RG.gs2 rfl rfl rfl (fun hp => (PV.field rfl Fo52_1 rfl)) ?_
    refine RG.gs2 rfl rfl rfl (fun hp => (PV.load1 rfl Sc2 (gs_t hp) (Rd.blk rfl))) ?_
    refine RG.gs2 rfl rfl rfl (fun hp => (PV.eql rfl (gs_t hp) (gs_t hp))) ?_
    refine RG.gs rfl rfl rfl (fun hp => (PV.pickO rfl (gs_t hp) rfl (fun hq => gs_t (gandF hp hq)))) ?_
    refine RG.pv rfl (PV.pickA rfl rfl (fun hq => gs_t (geqT hq)) rfl) ?_
    refine RG.pv rfl (PV.mvB (.inl rfl) rfl) ?_
    refine RG.gs rfl rfl rfl (fun hp => (PV.field rfl Fo52_0 rfl)) ?_
    refine RG.gs rfl rfl rfl (fun hp => (PV.load1 rfl Sc2 (gs_t hp) (Rd.blk rfl))) ?_
    refine RG.gsC rfl rfl rfl rfl En106 (fun hp => ⟨_, (acons (gs_t hp) anil), l16Paired_s ⟨rfl, rfl, rfl⟩⟩) ?_
    refine RG.gs rfl rfl rfl (fun hp => (PV.not rfl (gs_t hp))) ?_
    refine RG.gs rfl rfl rfl (fun hp => (PV.mvB (.inl rfl) (gs_t hp))) ?_
    refine RG.gs2 rfl rfl rfl (fun hp => (PV.field rfl Fo52_2 rfl)) ?_
    refine RG.gs2 rfl rfl rfl (fun hp => (PV.load1 rfl Sc2 (gs_t hp) (Rd.blk rfl))) ?_
    refine RG.gs2 rfl rfl rfl (fun hp => (PV.neq rfl (gs_t hp) rfl)) ?_
    refine RG.gs rfl rfl rfl (fun hp => (PV.pickA rfl (gs_t hp) (fun hq => gs_t (gandT hp hq)) rfl)) ?_
    refine RG.pv rfl (PV.pickO rfl rfl rfl (fun hq => gs_t (geqF hq))) ?_
    refine RG.nil ?_
    refine WP.cond rfl (fun h2 => ?_) (fun h2 => ?_)
    · rw [okOther_false h2, Bool.false_and] at k
      refine WP.seq ?_
      refine WP.region ?_
      refine RG.pv rfl (PV.mvB (.inr rfl) rfl) ?_
      refine RG.nil ?_
      refine WP.ret ?_
      exact ⟨_, _, ResV.one rfl rfl, Cv.p, k⟩
    · rw [okOther_true h2, Bool.true_and] at k
      refine WP.skip ?_
      refine WP.seq ?_
      refine WP.seq ?_
      refine WP.region ?_
      refine RG.pv rfl (PV.field rfl Fo52_0 rfl) ?_
      refine RG.pv rfl (PV.load1 rfl Sc2 rfl (Rd.blk rfl)) ?_
      refine RG.pv rfl (PV.eql rfl rfl rfl) ?_
      refine RG.nil ?_
      refine WP.cond rfl (fun h3 => ?_) (fun h3 => ?_)
      · have h3 := of_decide_eq_true h3
        rw [okPct, if_pos h3] at k
        refine WP.seq ?_
        refine WP.region ?_
        refine RG.pv rfl (PV.field rfl Fo52_4 rfl) ?_
        refine RG.pv rfl (PV.load1 rfl Sc2 rfl (Rd.blk rfl)) ?_
        refine RG.callF (vs := [_, _, _]) rfl rfl En104 rfl (l16In_s ?_)
        refine RG.pv rfl (PV.mvB (.inr rfl) rfl) ?_
        refine RG.nil ?_
        refine WP.ret ?_
        exact ⟨_, _, ResV.one rfl rfl, Cv.p, k⟩
      · have h3 := of_decide_eq_false h3
        rw [okPct, if_neg h3] at k
        refine WP.skip ?_
        refine WP.seq ?_
        refine WP.region ?_
        refine RG.pv rfl (PV.field rfl Fo52_4 rfl) ?_
        refine RG.pv rfl (PV.load1 rfl Sc2 rfl (Rd.blk rfl)) ?_
        refine RG.pv rfl (PV.eql rfl rfl rfl) ?_
        refine RG.pv rfl (PV.mvB (.inr rfl) rfl) ?_
        refine RG.nil ?_
        refine WP.ret ?_
        exact ⟨_, _, ResV.one rfl rfl, Cv.p, k⟩
theorem validRule_i {r : Rule} (k : R (.bool (validRule r)) G L) : CallT Tryz.prog 72 #[vrule r] G L R := by
  refine CallT.enter (args := _) Tryz.func72 rfl rfl (by kernel_rfl) rfl ?_
  refine WP.seq ?_
  refine WP.region ?_
  refine RG.ot rfl (OT.box (cs := ruleT.enc r) rfl rfl rfl fun b1 => ?_)
  refine RG.pv rfl (PV.mvB (.inr rfl) rfl) ?_
  refine RG.nil ?_
  refine WP.seq ?_
  refine WP.seq ?_
  refine WP.region ?_
  refine RG.pv rfl (PV.field rfl Fo52_0 rfl) ?_
  refine RG.pv rfl (PV.load1 rfl Sc2 rfl (Rd.blk rfl)) ?_
  refine RG.callF (vs := [_, _, _]) rfl rfl En126 rfl (within_s ?_)
  refine RG.pv rfl (PV.not rfl rfl) ?_
  refine RG.pv rfl (PV.mvB (.inl rfl) rfl) ?_
  refine RG.gs rfl rfl rfl (fun hp => (PV.field rfl Fo52_1 rfl)) ?_
  refine RG.gs rfl rfl rfl (fun hp => (PV.load1 rfl Sc2 (gs_t hp) (Rd.blk rfl))) ?_
  refine RG.gsC rfl rfl rfl rfl En126 (fun hp => ⟨_, (acons (gs_t hp) (acons rfl (acons rfl anil))), within_s ⟨rfl, rfl, rfl⟩⟩) ?_
  refine RG.gs rfl rfl rfl (fun hp => (PV.not rfl (gs_t hp))) ?_
  refine RG.pv rfl (PV.pickO rfl rfl rfl (fun hq => gs_t (geqF hq))) ?_
  refine RG.nil ?_
  refine WP.cond rfl (fun h1 => ?_) (fun h1 => ?_)
  · have e : validRule r = false := by
      unfold validRule; revert h1
      cases within r.kind 0 5 <;> cases within r.layer 0 7 <;> simp
    rw [e] at k
    refine WP.seq ?_
    refine WP.region ?_
    refine RG.pv rfl (PV.mvB (.inr rfl) rfl) ?_
    refine RG.nil ?_
    refine WP.ret ?_
    exact ⟨_, _, ResV.one rfl rfl, Cv.p, k⟩
  · have e : validRule r = (okOther r && (okVal r && okPct r)) := by
      unfold validRule; revert h1
      cases within r.kind 0 5 <;> cases within r.layer 0 7 <;> simp [Bool.and_assoc]
    rw [e] at k
    refine WP.skip ?_
    refine WP.seq ?_
    refine WP.seq ?_
    refine WP.region ?_
    refine RG.pv rfl (PV.field rfl Fo52_0 rfl) ?_
    refine RG.pv rfl (PV.load1 rfl Sc2 rfl (Rd.blk rfl)) ?_
    refine RG.callF (vs := [_]) rfl rfl En107 rfl (hasOther_s ?_)
    refine RG.pv rfl (PV.mvB (.inl rfl) rfl) ?_
    refine RG.gs rfl rfl rfl (fun hp => (PV.field rfl Fo52_2 rfl)) ?_
    refine RG.gs rfl rfl rfl (fun hp => (PV.load1 rfl Sc2 (gs_t hp) (Rd.blk rfl))) ?_
    refine RG.gsC rfl rfl rfl rfl En126 (fun hp => ⟨_, (acons (gs_t hp) (acons rfl (acons rfl anil))), within_s ⟨rfl, rfl, rfl⟩⟩) ?_
    refine RG.gs rfl rfl rfl (fun hp => (PV.not rfl (gs_t hp))) ?_
    refine RG.gs rfl rfl rfl (fun hp => (PV.mvB (.inl rfl) (gs_t hp))) ?_
    refine RG.gs2 rfl rfl rfl (fun hp => (PV.field rfl Fo52_2 rfl)) ?_
    refine RG.gs2 rfl rfl rfl (fun hp => (PV.load1 rfl Sc2 (gs_t hp) (Rd.blk rfl))) ?_
    refine RG.gs2 rfl rfl rfl (fun hp => (PV.field rfl Fo52_1 rfl)) ?_
    refine RG.gs2 rfl rfl rfl (fun hp => (PV.load1 rfl Sc2 (gs_t hp) (Rd.blk rfl))) ?_
    refine RG.gs2 rfl rfl rfl (fun hp => (PV.eql rfl (gs_t hp) (gs_t hp))) ?_
    refine RG.gs rfl rfl rfl (fun hp => (PV.pickO rfl (gs_t hp) rfl (fun hq => gs_t (gandF hp hq)))) ?_
    refine RG.pv rfl (PV.pickA rfl rfl (fun hq => gs_t (geqT hq)) rfl) ?_
    refine RG.pv rfl (PV.mvB (.inl rfl) rfl) ?_
    refine RG.gs rfl rfl rfl (fun hp => (PV.field rfl Fo52_0 rfl)) ?_
    refine RG.gs rfl rfl rfl (fun hp => (PV.load1 rfl Sc2 (gs_t hp) (Rd.blk rfl))) ?_
    refine RG.gsC rfl rfl rfl rfl En107 (fun hp => ⟨_, (acons (gs_t hp) anil), hasOther_s ⟨rfl, rfl, rfl⟩⟩) ?_
    refine RG.gs rfl rfl rfl (fun hp => (PV.not rfl (gs_t hp))) ?_
    refine RG.gs rfl rfl rfl (fun hp => (PV.mvB (.inl rfl) (gs_t hp))) ?_
    refine RG.gs2 rfl rfl rfl (fun hp => (PV.field rfl Fo52_2 rfl)) ?_
    refine RG.gs2 rfl rfl rfl (fun hp => (PV.load1 rfl Sc2 (gs_t hp) (Rd.blk rfl))) ?_
    refine RG.gs2 rfl rfl rfl (fun hp => (PV.neq rfl (gs_t hp) rfl)) ?_
    refine RG.gs rfl rfl rfl (fun hp => (PV.pickA rfl (gs_t hp) (fun hq => gs_t (gandT hp hq)) rfl)) ?_
    refine RG.pv rfl (PV.pickO rfl rfl rfl (fun hq => gs_t (geqF hq))) ?_
    refine RG.nil ?_
    refine WP.cond rfl (fun h2 => ?_) (fun h2 => ?_)
    · rw [okOther_false h2, Bool.false_and] at k
      refine WP.seq ?_
      refine WP.region ?_
      refine RG.pv rfl (PV.mvB (.inr rfl) rfl) ?_
      refine RG.nil ?_
      refine WP.ret ?_
      exact ⟨_, _, ResV.one rfl rfl, Cv.p, k⟩
    · rw [okOther_true h2, Bool.true_and] at k
      refine WP.skip ?_
      refine WP.seq ?_
      refine WP.seq ?_
      refine WP.region ?_
      refine RG.pv rfl (PV.field rfl Fo52_0 rfl) ?_
      refine RG.pv rfl (PV.load1 rfl Sc2 rfl (Rd.blk rfl)) ?_
      refine RG.nil ?_
      refine WP.block ?_
      refine WP.seq ?_
      refine WP.region ?_
      refine RG.pv rfl (PV.eql rfl rfl rfl) ?_
      refine RG.pv rfl (PV.mvB (.inr rfl) rfl) ?_
      refine RG.nil ?_
      refine WP.cond rfl (fun h3 => ?_) (fun h3 => ?_)
      · have h3 := of_decide_eq_true h3
        rw [okVal, if_pos h3, okPct, if_neg (by omega)] at k
        refine WP.seq ?_
        refine WP.region ?_
        refine RG.pv rfl (PV.field rfl Fo52_3 rfl) ?_
        refine RG.pv rfl (PV.load1 rfl Sc2 rfl (Rd.blk rfl)) ?_
        refine RG.callF (vs := [_, _, _]) rfl rfl En126 rfl (within_s ?_)
        refine RG.pv rfl (PV.mvB (.inl rfl) rfl) ?_
        refine RG.gs rfl rfl rfl (fun hp => (PV.field rfl Fo52_4 rfl)) ?_
        refine RG.gs rfl rfl rfl (fun hp => (PV.load1 rfl Sc2 (gs_t hp) (Rd.blk rfl))) ?_
        refine RG.gs rfl rfl rfl (fun hp => (PV.eql rfl (gs_t hp) rfl)) ?_
        refine RG.pv rfl (PV.pickA rfl rfl (fun hq => gs_t (geqT hq)) rfl) ?_
        refine RG.pv rfl (PV.mvB (.inr rfl) rfl) ?_
        refine RG.nil ?_
        refine WP.ret ?_
        exact ⟨_, _, ResV.one rfl rfl, Cv.p, k⟩
      · have h3 := of_decide_eq_false h3
        rw [okVal, if_neg h3] at k
        refine WP.seq ?_
        refine WP.region ?_
        refine RG.pv rfl (PV.eql rfl rfl rfl) ?_
        refine RG.pv rfl (PV.mvB (.inr rfl) rfl) ?_
        refine RG.nil ?_
        refine WP.cond rfl (fun h4 => ?_) (fun h4 => ?_)
        · have h4 := of_decide_eq_true h4
          rw [if_pos h4, okPct, if_pos h4] at k
          refine WP.seq ?_
          refine WP.region ?_
          refine RG.pv rfl (PV.field rfl Fo52_3 rfl) ?_
          refine RG.pv rfl (PV.load1 rfl Sc2 rfl (Rd.blk rfl)) ?_
          refine RG.callF (vs := [_, _, _]) rfl rfl En126 rfl (within_s ?_)
          refine RG.pv rfl (PV.mvB (.inl rfl) rfl) ?_
          refine RG.gs rfl rfl rfl (fun hp => (PV.field rfl Fo52_4 rfl)) ?_
          refine RG.gs rfl rfl rfl (fun hp => (PV.load1 rfl Sc2 (gs_t hp) (Rd.blk rfl))) ?_
          refine RG.gsC rfl rfl rfl rfl En126 (fun hp => ⟨_, (acons (gs_t hp) (acons rfl (acons rfl anil))), within_s ⟨rfl, rfl, rfl⟩⟩) ?_
          refine RG.pv rfl (PV.pickA rfl rfl (fun hq => gs_t (geqT hq)) rfl) ?_
          refine RG.pv rfl (PV.mvB (.inr rfl) rfl) ?_
          refine RG.nil ?_
          refine WP.ret ?_
          exact ⟨_, _, ResV.one rfl rfl, Cv.p, k⟩
        · have h4 := of_decide_eq_false h4
          rw [if_neg h4, okPct, if_neg h4] at k
          refine WP.skip ?_
          refine WP.seq ?_
          refine WP.region ?_
          refine RG.pv rfl (PV.field rfl Fo52_3 rfl) ?_
          refine RG.pv rfl (PV.load1 rfl Sc2 rfl (Rd.blk rfl)) ?_
          refine RG.callF (vs := [_, _, _]) rfl rfl En126 rfl (within_s ?_)
          refine RG.pv rfl (PV.mvB (.inl rfl) rfl) ?_
          refine RG.gs rfl rfl rfl (fun hp => (PV.field rfl Fo52_4 rfl)) ?_
          refine RG.gs rfl rfl rfl (fun hp => (PV.load1 rfl Sc2 (gs_t hp) (Rd.blk rfl))) ?_
          refine RG.gs rfl rfl rfl (fun hp => (PV.eql rfl (gs_t hp) rfl)) ?_
          refine RG.pv rfl (PV.pickA rfl rfl (fun hq => gs_t (geqT hq)) rfl) ?_
          refine RG.pv rfl (PV.mvB (.inr rfl) rfl) ?_
          refine RG.nil ?_
          refine WP.ret ?_
          exact ⟨_, _, ResV.one rfl rfl, Cv.p, k⟩
end Go.Proofs.YtgngpegmaceaiaaGreat
