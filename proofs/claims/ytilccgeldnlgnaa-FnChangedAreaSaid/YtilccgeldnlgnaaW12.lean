/-
  Contracts: boxes, hashes, signatures of regions; the law RegionSignature.
-/
import Derived.Test.YtilccgeldnlgnaaW11
namespace Go.Proofs.Ytilccgeldnlgnaa
open Go
set_option maxRecDepth 20000
set_option linter.unusedSimpArgs false
variable {G : Gh} {L : List Ch} {R : Value → Gh → List Ch → Prop}
theorem RIn_valid {r : Rect} : validRect r = true ↔ RIn 40 r := by simp [validRect, RIn]; omega
theorem RIn_all {xs : List Rect} (h : isReg xs = true) : ∀ r ∈ xs, RIn 40 r := by
  have := isReg_valid h
  simp only [validRs, Bool.and_eq_true, List.all_eq_true] at this
  exact fun r hr => RIn_valid.1 (this.2 r hr)
theorem RIn_gd {b : Int} {xs : List Rect} (h : ∀ r ∈ xs, RIn b r) {i : Nat} (hi : i < xs.length) : RIn b (gd xs i) := by rw [gd_eq hi]; exact h _ (List.getElem_mem _)
theorem boxOf_s {v : Value} {xs : List Rect} (h1 : Rs G L rectT v xs) (h0 : 0 < xs.length) (k : R (vrect (boxL xs)) G L) : CallT Try.prog 144 #[v] G L R := by
  refine CallT.bd h1 fun hb => ?_
  refine CallT.enter (args := _) Try.func144 rfl rfl (by kernel_rfl) rfl ?_
  refine WP.seq ?_
  refine WP.region ?_
  refine RG.ot rfl (OT.alloc rfl Zr81 fun b2 => ?_)
  refine RG.nil ?_
  refine WP.seq ?_
  refine WP.region ?_
  refine RG.pv rfl (PV.move (v := v) rfl rfl) ?_
  refine RG.pv rfl (PV.idxS (j := 0) (v := v) rfl Is24 rfl (SlF.r h1) rfl (by omega) (by omega)) ?_
  refine RG.pv rfl (PV.loadE rfl Ag81 rfl rfl (El.r h1 (getG (by omega)))) ?_
  refine RG.ot rfl (OT.alloc rfl Zr81 fun b3 => ?_)
  refine RG.ot rfl (OT.storeW (vs := [vi _, vi _, vi _, vi _]) rfl Sz81 rfl rfl (Cl.c rfl) rfl rfl (OneC.c rfl) ?_)
  refine RG.nil ?_
  refine WP.seq ?_
  refine WP.seq ?_
  refine WP.region ?_
  refine RG.pv rfl (PV.move (v := v) rfl rfl) ?_
  refine RG.pv rfl (PV.len (v := v) rfl Try.underlying24 rfl (SlF.r h1)) ?_
  refine RG.pv rfl (PV.mvI (.inl rfl) rfl) ?_
  refine RG.nil ?_
  refine WP.block ?_
  refine WP.loop2 [2, 3, 9, 10] (fun (i : Nat) (a : Rect) => i ≤ xs.length ∧ a = boxFrom (gd xs 0) (xs.take i)) (fun (i : Nat) (a : Rect) => [(11, vi i)]) (fun (i : Nat) (a : Rect) => blk b3 81 (rectT.enc a) :: blk b2 81 [vi 0, vi 0, vi 0, vi 0] :: L) (fun (i : Nat) (a : Rect) => xs.length - i) 0 (gd xs 0) ⟨by omega, rfl⟩ ⟨rfl, trivial⟩ Cv.p ?_
  rintro i a τ ⟨hi, ha⟩
  refine WP.seq ?_
  refine WP.region ?_
  refine RG.pv rfl (PV.lss rfl rfl rfl) ?_
  refine RG.nil ?_
  refine WP.seq ?_
  refine WP.cond rfl (fun h2 => ?_) (fun h2 => ?_)
  · have h2 := of_decide_eq_true h2
    refine WP.skip ?_
    refine WP.seq ?_
    refine WP.block ?_
    refine WP.seq ?_
    refine WP.region ?_
    refine RG.pv rfl (PV.idxS (v := v) rfl Is24 rfl (SlF.r h1) rfl rfl (by omega)) ?_
    refine RG.pv rfl (PV.loadE rfl Ag81 rfl rfl (El.r h1 (getG (by omega)))) ?_
    refine RG.ot rfl (OT.alloc rfl Zr81 fun b5 => ?_)
    refine RG.ot rfl (OT.storeW (vs := [vi _, vi _, vi _, vi _]) rfl Sz81 rfl rfl (Cl.c rfl) rfl rfl (OneC.c rfl) ?_)
    refine RG.nil ?_
    refine WP.region ?_
    refine RG.pv rfl (PV.field rfl Fo81_0 rfl) ?_
    refine RG.pv rfl (PV.load1 rfl Sc2 rfl (Rd.blk rfl)) ?_
    refine RG.pv rfl (PV.field rfl Fo81_0 rfl) ?_
    refine RG.pv rfl (PV.load1 rfl Sc2 rfl (Rd.blk rfl)) ?_
    refine RG.pv rfl (PV.min2 rfl rfl rfl) ?_
    refine RG.pv rfl (PV.field rfl Fo81_1 rfl) ?_
    refine RG.pv rfl (PV.load1 rfl Sc2 rfl (Rd.blk rfl)) ?_
    refine RG.pv rfl (PV.field rfl Fo81_1 rfl) ?_
    refine RG.pv rfl (PV.load1 rfl Sc2 rfl (Rd.blk rfl)) ?_
    refine RG.pv rfl (PV.min2 rfl rfl rfl) ?_
    refine RG.pv rfl (PV.field rfl Fo81_2 rfl) ?_
    refine RG.pv rfl (PV.load1 rfl Sc2 rfl (Rd.blk rfl)) ?_
    refine RG.pv rfl (PV.field rfl Fo81_2 rfl) ?_
    refine RG.pv rfl (PV.load1 rfl Sc2 rfl (Rd.blk rfl)) ?_
    refine RG.pv rfl (PV.max2 rfl rfl rfl) ?_
    refine RG.pv rfl (PV.field rfl Fo81_3 rfl) ?_
    refine RG.pv rfl (PV.load1 rfl Sc2 rfl (Rd.blk rfl)) ?_
    refine RG.pv rfl (PV.field rfl Fo81_3 rfl) ?_
    refine RG.pv rfl (PV.load1 rfl Sc2 rfl (Rd.blk rfl)) ?_
    refine RG.pv rfl (PV.max2 rfl rfl rfl) ?_
    refine RG.pv rfl (PV.build (vs := [(0, [vi _]), (1, [vi _]), (2, [vi _]), (3, [vi _])]) (out := [_, _, _, _]) rfl Zr81 Pl81 ⟨rfl, (Cl.c rfl), ⟨rfl, (Cl.c rfl), ⟨rfl, (Cl.c rfl), ⟨rfl, (Cl.c rfl), trivial⟩⟩⟩⟩ rfl) ?_
    refine RG.ot rfl (OT.storeW (vs := [vi _, vi _, vi _, vi _]) rfl Sz81 rfl rfl (Cl.c rfl) rfl rfl (OneC.c rfl) ?_)
    refine RG.nil ?_
    refine WP.region ?_
    refine RG.pv rfl (PV.add rfl rfl rfl (by omega)) ?_
    refine RG.pv rfl (PV.mvI (.inl rfl) rfl) ?_
    refine RG.nil ?_
    exact ⟨rfl, i + 1, (joinR a (gd xs i)), ⟨by omega, by rw [boxFrom_take (by omega), ha]⟩, ⟨rfl, trivial⟩, ⟨rfl, rfl, rfl, rfl, trivial⟩, Cv.p, by omega⟩
  · have h2 := of_decide_eq_false h2
    have e : a = boxL xs := by rw [ha, List.take_of_length_le (by omega)]; rfl
    rw [← e] at k
    refine WP.exit ?_
    refine WP.seq ?_
    refine WP.region ?_
    refine RG.pv rfl (PV.loadW rfl Ag81 rfl rfl) ?_
    refine RG.ot rfl (OT.storeW (vs := [vi _, vi _, vi _, vi _]) rfl Sz81 rfl rfl (Cl.c rfl) rfl rfl (OneC.c rfl) ?_)
    refine RG.nil ?_
    refine WP.ret ?_
    exact ⟨_, _, ResV.one rfl (RV1.cell rfl Ag81 rfl), Cv.p, k⟩
theorem l02Box_s {v : Value} {xs : List Rect} (h1 : Rs G L rectT v xs) (h0 : 0 < xs.length) (k : R (vrect (boxL xs)) G L) : CallT Try.prog 147 #[v] G L R := by
  refine CallT.bd h1 fun hb => ?_
  refine CallT.enter (args := _) Try.func147 rfl rfl (by kernel_rfl) rfl ?_
  refine WP.seq ?_
  refine WP.region ?_
  refine RG.ot rfl (OT.alloc rfl Zr81 fun b2 => ?_)
  refine RG.nil ?_
  refine WP.seq ?_
  refine WP.region ?_
  refine RG.pv rfl (PV.move (v := v) rfl rfl) ?_
  refine RG.pv rfl (PV.idxS (j := 0) (v := v) rfl Is24 rfl (SlF.r h1) rfl (by omega) (by omega)) ?_
  refine RG.pv rfl (PV.loadE rfl Ag81 rfl rfl (El.r h1 (getG (by omega)))) ?_
  refine RG.ot rfl (OT.alloc rfl Zr81 fun b3 => ?_)
  refine RG.ot rfl (OT.storeW (vs := [vi _, vi _, vi _, vi _]) rfl Sz81 rfl rfl (Cl.c rfl) rfl rfl (OneC.c rfl) ?_)
  refine RG.nil ?_
  refine WP.seq ?_
  refine WP.seq ?_
  refine WP.region ?_
  refine RG.pv rfl (PV.mvI (.inr rfl) rfl) ?_
  refine RG.nil ?_
  refine WP.block ?_
  refine WP.loop2 [0, 2, 3] (fun (i : Nat) (a : Rect) => 1 ≤ i ∧ i ≤ xs.length ∧ a = boxFrom (gd xs 0) (xs.take i)) (fun (i : Nat) (a : Rect) => [(4, vi i)]) (fun (i : Nat) (a : Rect) => blk b3 81 (rectT.enc a) :: blk b2 81 [vi 0, vi 0, vi 0, vi 0] :: L) (fun (i : Nat) (a : Rect) => xs.length - i) 1 (gd xs 0) ⟨by omega, by omega, (boxFrom_one h0).symm⟩ ⟨rfl, trivial⟩ Cv.p ?_
  rintro i a τ ⟨hi0, hi, ha⟩
  refine WP.seq ?_
  refine WP.seq ?_
  refine WP.region ?_
  refine RG.pv rfl (PV.mvI (.inl rfl) rfl) ?_
  refine RG.pv rfl (PV.move (v := v) rfl rfl) ?_
  refine RG.pv rfl (PV.len (v := v) rfl Try.underlying24 rfl (SlF.r h1)) ?_
  refine RG.pv rfl (PV.lss rfl rfl rfl) ?_
  refine RG.nil ?_
  refine WP.cond rfl (fun h2 => ?_) (fun h2 => ?_)
  · have h2 := of_decide_eq_true h2
    refine WP.skip ?_
    refine WP.seq ?_
    refine WP.block ?_
    refine WP.seq ?_
    refine WP.region ?_
    refine RG.pv rfl (PV.move (v := v) rfl rfl) ?_
    refine RG.pv rfl (PV.mvI (.inl rfl) rfl) ?_
    refine RG.pv rfl (PV.idxS (v := v) rfl Is24 rfl (SlF.r h1) rfl rfl (by omega)) ?_
    refine RG.pv rfl (PV.loadE rfl Ag81 rfl rfl (El.r h1 (getG (by omega)))) ?_
    refine RG.ot rfl (OT.alloc rfl Zr81 fun b5 => ?_)
    refine RG.ot rfl (OT.storeW (vs := [vi _, vi _, vi _, vi _]) rfl Sz81 rfl rfl (Cl.c rfl) rfl rfl (OneC.c rfl) ?_)
    refine RG.nil ?_
    refine WP.region ?_
    refine RG.pv rfl (PV.field rfl Fo81_0 rfl) ?_
    refine RG.pv rfl (PV.load1 rfl Sc2 rfl (Rd.blk rfl)) ?_
    refine RG.pv rfl (PV.field rfl Fo81_0 rfl) ?_
    refine RG.pv rfl (PV.load1 rfl Sc2 rfl (Rd.blk rfl)) ?_
    refine RG.pv rfl (PV.min2 rfl rfl rfl) ?_
    refine RG.pv rfl (PV.field rfl Fo81_1 rfl) ?_
    refine RG.pv rfl (PV.load1 rfl Sc2 rfl (Rd.blk rfl)) ?_
    refine RG.pv rfl (PV.field rfl Fo81_1 rfl) ?_
    refine RG.pv rfl (PV.load1 rfl Sc2 rfl (Rd.blk rfl)) ?_
    refine RG.pv rfl (PV.min2 rfl rfl rfl) ?_
    refine RG.pv rfl (PV.field rfl Fo81_2 rfl) ?_
    refine RG.pv rfl (PV.load1 rfl Sc2 rfl (Rd.blk rfl)) ?_
    refine RG.pv rfl (PV.field rfl Fo81_2 rfl) ?_
    refine RG.pv rfl (PV.load1 rfl Sc2 rfl (Rd.blk rfl)) ?_
    refine RG.pv rfl (PV.max2 rfl rfl rfl) ?_
    refine RG.pv rfl (PV.field rfl Fo81_3 rfl) ?_
    refine RG.pv rfl (PV.load1 rfl Sc2 rfl (Rd.blk rfl)) ?_
    refine RG.pv rfl (PV.field rfl Fo81_3 rfl) ?_
    refine RG.pv rfl (PV.load1 rfl Sc2 rfl (Rd.blk rfl)) ?_
    refine RG.pv rfl (PV.max2 rfl rfl rfl) ?_
    refine RG.pv rfl (PV.build (vs := [(0, [vi _]), (1, [vi _]), (2, [vi _]), (3, [vi _])]) (out := [_, _, _, _]) rfl Zr81 Pl81 ⟨rfl, (Cl.c rfl), ⟨rfl, (Cl.c rfl), ⟨rfl, (Cl.c rfl), ⟨rfl, (Cl.c rfl), trivial⟩⟩⟩⟩ rfl) ?_
    refine RG.ot rfl (OT.storeW (vs := [vi _, vi _, vi _, vi _]) rfl Sz81 rfl rfl (Cl.c rfl) rfl rfl (OneC.c rfl) ?_)
    refine RG.nil ?_
    refine WP.region ?_
    refine RG.pv rfl (PV.mvI (.inl rfl) rfl) ?_
    refine RG.pv rfl (PV.add rfl rfl rfl (by omega)) ?_
    refine RG.pv rfl (PV.mvI (.inr rfl) rfl) ?_
    refine RG.nil ?_
    exact ⟨rfl, i + 1, (joinR a (gd xs i)), ⟨by omega, by omega, by rw [boxFrom_take (by omega), ha]⟩, ⟨rfl, trivial⟩, ⟨rfl, rfl, rfl, trivial⟩, Cv.p, by omega⟩
  · have h2 := of_decide_eq_false h2
    have e : a = boxL xs := by rw [ha, List.take_of_length_le (by omega)]; rfl
    rw [← e] at k
    refine WP.exit ?_
    refine WP.seq ?_
    refine WP.region ?_
    refine RG.pv rfl (PV.loadW rfl Ag81 rfl rfl) ?_
    refine RG.ot rfl (OT.storeW (vs := [vi _, vi _, vi _, vi _]) rfl Sz81 rfl rfl (Cl.c rfl) rfl rfl (OneC.c rfl) ?_)
    refine RG.nil ?_
    refine WP.ret ?_
    exact ⟨_, _, ResV.one rfl (RV1.cell rfl Ag81 rfl), Cv.p, k⟩
theorem hash_s {v : Value} {h : Int} {l : List Int} (h1 : Rs G L intT v l) (hh : 0 ≤ h ∧ h < 2147483647) (hl : ∀ i, i < l.length → 0 ≤ gd l i ∧ gd l i ≤ 4294967296) (k : R (vi (hashL h l)) G L) : CallT Try.prog 146 #[vi h, v] G L R := by
  refine CallT.bd h1 fun hb => ?_
  refine CallT.enter (args := _) Try.func146 rfl rfl (by kernel_rfl) rfl ?_
  refine WP.seq ?_
  refine WP.region ?_
  refine RG.pv rfl (PV.mvI (.inr rfl) rfl) ?_
  refine RG.nil ?_
  refine WP.seq ?_
  refine WP.seq ?_
  refine WP.region ?_
  refine RG.pv rfl (PV.move (v := v) rfl rfl) ?_
  refine RG.pv rfl (PV.len (v := v) rfl Try.underlying116 rfl (SlF.r h1)) ?_
  refine RG.pv rfl (PV.mvI (.inl rfl) rfl) ?_
  refine RG.nil ?_
  refine WP.block ?_
  refine WP.loop2 [7, 8] (fun (i : Nat) (g : Int) => i ≤ l.length ∧ g = hashL h (l.take i)) (fun (i : Nat) (g : Int) => [(9, vi i), (0, vi g)]) (fun (i : Nat) (g : Int) => L) (fun (i : Nat) (g : Int) => l.length - i) 0 h ⟨by omega, rfl⟩ ⟨rfl, rfl, trivial⟩ Cv.p ?_
  rintro i g τ ⟨hi, hg⟩
  refine WP.seq ?_
  refine WP.region ?_
  refine RG.pv rfl (PV.lss rfl rfl rfl) ?_
  refine RG.nil ?_
  refine WP.seq ?_
  have hgb := hashL_bd (l.take i) hh
  rw [← hg] at hgb
  refine WP.cond rfl (fun h2 => ?_) (fun h2 => ?_)
  · have h2 := of_decide_eq_true h2
    have hli := hl i (by omega)
    refine WP.skip ?_
    refine WP.seq ?_
    refine WP.block ?_
    refine WP.seq ?_
    refine WP.region ?_
    refine RG.pv rfl (PV.idxS (v := v) rfl Is116 rfl (SlF.r h1) rfl rfl (by omega)) ?_
    refine RG.pv rfl (PV.loadE1 rfl Sc2 rfl rfl (El.r h1 (getG (by omega))) rfl) ?_
    refine RG.pv rfl (PV.mvI (.inr rfl) rfl) ?_
    refine RG.nil ?_
    refine WP.region ?_
    refine RG.pv rfl (PV.mvI (.inl rfl) rfl) ?_
    refine RG.pv rfl (PV.mul rfl rfl rfl (by omega)) ?_
    refine RG.pv rfl (PV.mvI (.inl rfl) rfl) ?_
    refine RG.pv rfl (PV.add rfl rfl rfl (by omega)) ?_
    refine RG.pv rfl (PV.add rfl rfl rfl (by omega)) ?_
    refine RG.pv rfl (PV.rem rfl rfl rfl (by omega) (by omega) (by omega)) ?_
    refine RG.pv rfl (PV.mvI (.inr rfl) rfl) ?_
    refine RG.nil ?_
    refine WP.region ?_
    refine RG.pv rfl (PV.add rfl rfl rfl (by omega)) ?_
    refine RG.pv rfl (PV.mvI (.inl rfl) rfl) ?_
    refine RG.nil ?_
    exact ⟨rfl, i + 1, _, ⟨by omega, by rw [hashL_take (by omega), ← hg]; rfl⟩, ⟨rfl, rfl, trivial⟩, ⟨rfl, rfl, trivial⟩, Cv.p, by omega⟩
  · have h2 := of_decide_eq_false h2
    have e : g = hashL h l := by rw [hg, List.take_of_length_le (by omega)]
    rw [← e] at k
    refine WP.exit ?_
    refine WP.seq ?_
    refine WP.region ?_
    refine RG.pv rfl (PV.mvI (.inl rfl) rfl) ?_
    refine RG.pv rfl (PV.mvI (.inr rfl) rfl) ?_
    refine RG.nil ?_
    refine WP.ret ?_
    exact ⟨_, _, ResV.one rfl rfl, Cv.p, k⟩
theorem l22Hash_s {h n : Int} (hh : 0 ≤ h ∧ h < 2147483647) (hl : 0 ≤ n ∧ n ≤ 4294967296) (k : R (vi (hashI h n)) G L) : CallT Try.prog 148 #[vi h, vi n] G L R := by
  refine CallT.enter (args := _) Try.func148 rfl rfl (by kernel_rfl) rfl ?_
  refine WP.seq ?_
  refine WP.region ?_
  refine RG.pv rfl (PV.mvI (.inr rfl) rfl) ?_
  refine RG.nil ?_
  refine WP.seq ?_
  refine WP.region ?_
  refine RG.pv rfl (PV.mvI (.inl rfl) rfl) ?_
  refine RG.pv rfl (PV.mul rfl rfl rfl (by omega)) ?_
  refine RG.pv rfl (PV.mvI (.inl rfl) rfl) ?_
  refine RG.pv rfl (PV.add rfl rfl rfl (by omega)) ?_
  refine RG.pv rfl (PV.add rfl rfl rfl (by omega)) ?_
  refine RG.pv rfl (PV.rem rfl rfl rfl (by omega) (by omega) (by omega)) ?_
  refine RG.pv rfl (PV.mvI (.inr rfl) rfl) ?_
  refine RG.nil ?_
  refine WP.ret ?_
  exact ⟨_, _, ResV.one rfl rfl, Cv.p, k⟩

/-! ## moved regions, as the reference tells them -/
def movedOk (t : Trans) (xs : List Rect) : Bool := xs.all fun r => validRect (moveR t r)
def movedR (t : Trans) (xs : List Rect) : List Rect := bif movedOk t xs then canon (bits (xs.map (moveR t))) else []
theorem l03Moved_s {t : Trans} {v : Value} {xs : List Rect} (h1 : Rs G L rectT v xs) (hb2 : xs.length ≤ 1048576) (ho : 0 ≤ t.o ∧ t.o ≤ 7) (ht : -1000 ≤ t.x ∧ t.x ≤ 1000 ∧ -1000 ≤ t.y ∧ t.y ≤ 1000) (hr : ∀ i, i < xs.length → RIn 40 (gd xs i))
    (k : ∀ v', R (.tuple #[v', .bool (movedOk t xs)]) G (osl 81 rectT v' (movedR t xs) :: L)) : CallT Try.prog 84 #[vtrans t, v] G L R := by
  refine CallT.enter (args := _) Try.func84 rfl rfl (by kernel_rfl) rfl ?_
  refine WP.seq ?_
  refine WP.region ?_
  refine RG.ot rfl (OT.box (cs := transT.enc t) rfl rfl rfl fun b2 => ?_)
  refine RG.pv rfl (PV.asg rfl rfl) ?_
  refine RG.pv rfl (PV.mvB (.inr rfl) rfl) ?_
  refine RG.nil ?_
  refine WP.seq ?_
  refine WP.region ?_
  refine RG.ot rfl (OT.bslice (F := rectT) (els := []) rfl El24 rfl (by decide) rfl (by decide) trivial fun v9 => ?_)
  refine RG.pv rfl (PV.asg (v := v9) rfl rfl) ?_
  refine RG.nil ?_
  refine WP.seq ?_
  refine WP.seq ?_
  refine WP.region ?_
  refine RG.pv rfl (PV.mvI (.inr rfl) rfl) ?_
  refine RG.nil ?_
  refine WP.block ?_
  refine WP.loop3 [1, 2] (fun (i : Nat) (ys : List Rect) (u : Value) => i ≤ xs.length ∧ ys = (xs.take i).map (moveR t) ∧ ∀ j, j < ys.length → validRect (gd ys j) = true) (fun (i : Nat) (ys : List Rect) (u : Value) => [(7, vi i), (6, u)]) (fun (i : Nat) (ys : List Rect) (u : Value) => osl 81 rectT u ys :: blk b2 37 (transT.enc t) :: L) (fun (i : Nat) (ys : List Rect) (u : Value) => xs.length - i) 0 [] v9 ⟨by omega, rfl, fun j hj => by simp at hj⟩ ⟨rfl, rfl, trivial⟩ Cv.p ?_
  rintro i ys u τ ⟨hi, hys, hva⟩
  refine WP.seq ?_
  refine WP.seq ?_
  refine WP.region ?_
  refine RG.pv rfl (PV.mvI (.inl rfl) rfl) ?_
  refine RG.pv rfl (PV.move (v := v) rfl rfl) ?_
  refine RG.pv rfl (PV.len (v := v) rfl Try.underlying24 rfl (SlF.r h1)) ?_
  refine RG.pv rfl (PV.lss rfl rfl rfl) ?_
  refine RG.nil ?_
  have hyl : ys.length = i := by rw [hys]; simp; omega
  refine WP.cond rfl (fun h2 => ?_) (fun h2 => ?_)
  · have h2 := of_decide_eq_true h2
    refine WP.skip ?_
    refine WP.seq ?_
    refine WP.block ?_
    refine WP.cut1 [1, 2, 6, 7] (fun (b8 : Nat) => True) (fun (b8 : Nat) => [(8, .pointer (some ⟨b8, 0, none⟩))]) (fun (b8 : Nat) => blk b8 81 (rectT.enc (moveR t (gd xs i))) :: osl 81 rectT u ys :: blk b2 37 (transT.enc t) :: L) ?_ ?_
    refine WP.regionH0 (.q 0 (.q 1 (.q 2 (.q 3 (.q 4 (.b 5 (.l 6 (.l 7 Sch.nil)) 6 (.l 5 (.l 7 Sch.nil)))))))) (by kernel_rfl) (by kernel_rfl) (by kernel_rfl) rfl ?_
    refine RH.pv rfl (fun _ _ _ _ h => h) (Gh.le_refl _) PickC.pick rfl (PV.loadW rfl Ag37 rfl rfl) ?_
    refine RH.pv rfl (fun _ _ _ _ h => h) (Gh.le_refl _) PickC.pick rfl (PV.move (v := v) rfl rfl) ?_
    refine RH.pv rfl (fun _ _ _ _ h => h) (Gh.le_refl _) PickC.pick rfl (PV.mvI (.inl rfl) rfl) ?_
    refine RH.pv rfl (fun _ _ _ _ h => h) (Gh.le_refl _) PickC.pick rfl (PV.idxS (v := v) rfl Is24 rfl (SlF.r h1) rfl rfl (by omega)) ?_
    refine RH.pv rfl (fun _ _ _ _ h => h) (Gh.le_refl _) PickC.pick rfl (PV.loadE rfl Ag81 rfl rfl (El.r h1 (getG (by omega)))) ?_
    · refine RH.ot2 rfl rfl rfl rfl  (OT.callF (vs := [_, _]) rfl En138 rfl (moveRect_r ho ht (hr i (by omega)) ⟨Gh.le_refl _, PickC.pick, ?_⟩)) (OT.alloc rfl Zr81 fun b8 => ⟨Gh.le_refl _, PickC.pick, ?_⟩)
      · refine RH.ot rfl rfl (OT.alloc rfl Zr81 fun b8 => ⟨Gh.le_refl _, PickC.pick, ?_⟩)
        refine RH.ot rfl rfl (OT.storeW (vs := [vi _, vi _, vi _, vi _]) rfl Sz81 rfl rfl (Cl.c rfl) rfl rfl (OneC.c rfl) ⟨Gh.le_refl _, PickC.pick, ?_⟩)
        refine RH.nil ?_
        exact ⟨rfl, b8, trivial, ⟨rfl, trivial⟩, ⟨rfl, rfl, rfl, rfl, trivial⟩, Cv.p⟩
      · refine RH.ot rfl rfl (OT.callF (vs := [_, _]) rfl En138 rfl (moveRect_r ho ht (hr i (by omega)) ⟨Gh.le_refl _, PickC.pick, ?_⟩))
        refine RH.ot rfl rfl (OT.storeW (vs := [vi _, vi _, vi _, vi _]) rfl Sz81 rfl rfl (Cl.c rfl) rfl rfl (OneC.c rfl) ⟨Gh.le_refl _, PickC.pick, ?_⟩)
        refine RH.nil ?_
        exact ⟨rfl, b8, trivial, ⟨rfl, trivial⟩, ⟨rfl, rfl, rfl, rfl, trivial⟩, Cv.p⟩
    · rintro b8 τ1 -
      refine WP.seq ?_
      refine WP.seq ?_
      refine WP.region ?_
      refine RG.pv rfl (PV.loadW rfl Ag81 rfl rfl) ?_
      refine RG.callF (vs := [_]) rfl rfl En139 rfl (validRect_s' ?_)
      refine RG.pv rfl (PV.not rfl rfl) ?_
      refine RG.nil ?_
      refine WP.cond rfl (fun h3 => ?_) (fun h3 => ?_)
      · have e1 : movedOk t xs = false := by
          rw [movedOk, List.all_eq_false]
          exact ⟨gd xs i, by rw [gd_eq (by omega)]; exact List.getElem_mem _, by simpa using h3⟩
        have e2 : movedR t xs = [] := by rw [movedR, e1]; rfl
        rw [e1, e2] at k
        refine WP.seq ?_
        refine WP.region ?_
        refine RG.pv rfl (PV.asg rfl rfl) ?_
        refine RG.pv rfl (PV.mvB (.inr rfl) rfl) ?_
        refine RG.nil ?_
        refine WP.ret ?_
        exact ⟨_, _, ResV.two rfl rfl rfl, Cv.nilP, k (.slice none 0 0)⟩
      · have h4 : validRect (moveR t (gd xs i)) = true := by simpa using h3
        refine WP.skip ?_
        refine WP.region ?_
        refine RG.pv rfl (PV.move (v := u) rfl rfl) ?_
        refine RG.pv rfl (PV.loadW rfl Ag81 rfl rfl) ?_
        refine RG.ot rfl (OT.bslice (F := rectT) (els := [⟨_, _, _, _⟩]) rfl El24 rfl (by decide) rfl (by decide) ⟨rfl, (Cl.c rfl), trivial⟩ fun v27 => ?_)
        refine RG.ot rfl (OT.append (v := u) (u := v27) (F := rectT) rfl El24 rfl (by decide) rfl rfl Rs.o (OneL.c (fun _ => rfl)) rfl (by first | omega | (simp <;> omega)) fun v28 => ?_)
        refine RG.pv rfl (PV.asg (v := v28) rfl rfl) ?_
        refine RG.nil ?_
        refine WP.region ?_
        refine RG.pv rfl (PV.mvI (.inl rfl) rfl) ?_
        refine RG.pv rfl (PV.add rfl rfl rfl (by omega)) ?_
        refine RG.pv rfl (PV.mvI (.inr rfl) rfl) ?_
        refine RG.nil ?_
        refine ⟨rfl, i + 1, (ys ++ [moveR t (gd xs i)]), v28, ⟨by omega, by rw [hys, List.take_add_one, getG (by omega)]; simp, fun j hj => ?_⟩, ⟨rfl, rfl, trivial⟩, ⟨rfl, rfl, trivial⟩, ((Cv.eqS (ys := ys ++ [moveR t (gd xs i)]) rfl).trans Cv.p), by omega⟩
        by_cases c : j = ys.length
        · subst c; simpa [gd] using h4
        · have := hva j (by simp at hj; omega)
          simpa [gd, List.getElem?_append_left (show j < ys.length by simp at hj; omega)] using this
  · have h2 := of_decide_eq_false h2
    have e1 : movedOk t xs = true := by
      rw [movedOk, List.all_eq_true]
      intro r hr
      obtain ⟨j, hj, rfl⟩ := List.getElem_of_mem hr
      have := hva j (by omega)
      rw [hys, List.take_of_length_le (by omega), gd_map _ hj, gd_eq hj] at this; exact this
    have e2 : movedR t xs = canon (bits ys) := by rw [movedR, e1, hys, List.take_of_length_le (by omega)]; rfl
    rw [e1, e2] at k
    refine WP.exit ?_
    refine WP.seq ?_
    refine WP.region ?_
    refine RG.pv rfl (PV.move (v := u) rfl rfl) ?_
    refine RG.callF (vs := [u]) rfl rfl En70 rfl (l03Bits_s Rs.o (fun i hi => hva i hi) (fun v30 => ?_))
    refine RG.callF (vs := [v30]) rfl rfl En73 rfl (l03Canon_s Rs.o (bits_length _) (fun v31 => ?_))
    refine RG.pv rfl (PV.asg (v := v31) rfl rfl) ?_
    refine RG.pv rfl (PV.mvB (.inr rfl) rfl) ?_
    refine RG.nil ?_
    refine WP.ret ?_
    exact ⟨_, _, ResV.two rfl rfl rfl, Cv.p, k v31⟩

/-! ## signatures -/
theorem imgs_len (xs : List Rect) (o : Int) : (imgs xs o).length = xs.length := by simp [imgs]
theorem imgs_take {xs : List Rect} {o : Int} {i : Nat} (h : i < xs.length) : (xs.take (i + 1)).map (moveR ⟨o, 0, 0⟩) = (xs.take i).map (moveR ⟨o, 0, 0⟩) ++ [moveR ⟨o, 0, 0⟩ (gd xs i)] := by
  rw [List.take_add_one, getG h]; simp
theorem shifted_valid {im : List Rect} (h0 : 0 < im.length) (h : ∀ r ∈ im, RIn 40 r) : movedR ⟨0, -40 - (boxL im).x0, -40 - (boxL im).y0⟩ im = canon (bits (shifted im)) ∧ movedOk ⟨0, -40 - (boxL im).x0, -40 - (boxL im).y0⟩ im = true := by
  have e : ∀ r ∈ im, moveR ⟨0, -40 - (boxL im).x0, -40 - (boxL im).y0⟩ r = shiftR (-40 - (boxL im).x0) (-40 - (boxL im).y0) r := fun r hr => moveR_shift (by have := h r hr; simp only [RIn] at this; omega)
  have e2 : movedOk ⟨0, -40 - (boxL im).x0, -40 - (boxL im).y0⟩ im = true := by
    rw [movedOk, List.all_eq_true]
    intro r hr
    rw [e r hr]; exact RIn_valid.2 (shifted_in h0 h r hr)
  refine ⟨?_, e2⟩
  rw [movedR, e2]
  simp only [cond_true, shifted]
  rw [List.map_congr_left e]
theorem canon_bd {bs : List Bool} {i : Nat} (h : i < (canon bs).length) : -40 ≤ (gd (canon bs) i).x0 ∧ (gd (canon bs) i).x0 ≤ 40 ∧ -40 ≤ (gd (canon bs) i).y0 ∧ (gd (canon bs) i).y0 ≤ 40 ∧ -40 ≤ (gd (canon bs) i).x1 ∧ (gd (canon bs) i).x1 ≤ 40 ∧ -40 ≤ (gd (canon bs) i).y1 ∧ (gd (canon bs) i).y1 ≤ 40 := by
  have := canonFrom_mem bs 0 (gd (canon bs) i) (by rw [gd_eq h]; exact List.getElem_mem _)
  omega
theorem l22Turned_s {o : Int} {v : Value} {xs : List Rect} (h1 : Rs G L rectT v xs) (hne : 0 < xs.length) (hb2 : xs.length ≤ 1048576) (hr : ∀ r ∈ xs, RIn 40 r) (ho : 0 ≤ o ∧ o ≤ 7) (k : R (vi (sigO xs o)) G L) : CallT Try.prog 87 #[v, vi o] G L R := by
  refine CallT.enter (args := _) Try.func87 rfl rfl (by kernel_rfl) rfl ?_
  refine WP.seq ?_
  refine WP.region ?_
  refine RG.pv rfl (PV.mvI (.inr rfl) rfl) ?_
  refine RG.nil ?_
  refine WP.seq ?_
  refine WP.region ?_
  refine RG.ot rfl (OT.bslice (F := rectT) (els := []) rfl El24 rfl (by decide) rfl (by decide) trivial fun v12 => ?_)
  refine RG.pv rfl (PV.asg (v := v12) rfl rfl) ?_
  refine RG.nil ?_
  refine WP.seq ?_
  refine WP.seq ?_
  refine WP.region ?_
  refine RG.pv rfl (PV.mvI (.inr rfl) rfl) ?_
  refine RG.nil ?_
  refine WP.block ?_
  refine WP.loop3 [0, 1] (fun (i : Nat) (ys : List Rect) (u : Value) => i ≤ xs.length ∧ ys = (xs.take i).map (moveR ⟨o, 0, 0⟩)) (fun (i : Nat) (ys : List Rect) (u : Value) => [(6, vi i), (5, u)]) (fun (i : Nat) (ys : List Rect) (u : Value) => osl 81 rectT u ys :: L) (fun (i : Nat) (ys : List Rect) (u : Value) => xs.length - i) 0 [] v12 ⟨by omega, rfl⟩ ⟨rfl, rfl, trivial⟩ Cv.p ?_
  rintro i ys u τ ⟨hi, hys⟩
  refine WP.seq ?_
  refine WP.seq ?_
  refine WP.region ?_
  refine RG.pv rfl (PV.mvI (.inl rfl) rfl) ?_
  refine RG.pv rfl (PV.move (v := v) rfl rfl) ?_
  refine RG.pv rfl (PV.len (v := v) rfl Try.underlying24 rfl (SlF.r h1)) ?_
  refine RG.pv rfl (PV.lss rfl rfl rfl) ?_
  refine RG.nil ?_
  have hyl : ys.length = i := by rw [hys]; simp; omega
  refine WP.cond rfl (fun h2 => ?_) (fun h2 => ?_)
  · have h2 := of_decide_eq_true h2
    refine WP.skip ?_
    refine WP.seq ?_
    refine WP.block ?_
    refine WP.region ?_
    refine RG.pv rfl (PV.move (v := u) rfl rfl) ?_
    refine RG.pv rfl (PV.mvI (.inl rfl) rfl) ?_
    refine RG.pv rfl (PV.build (vs := [(0, [vi _])]) (out := [_, _, _]) rfl Zr37 Pl37 ⟨rfl, (Cl.c rfl), trivial⟩ rfl) ?_
    refine RG.pv rfl (PV.move (v := v) rfl rfl) ?_
    refine RG.pv rfl (PV.mvI (.inl rfl) rfl) ?_
    refine RG.pv rfl (PV.idxS (v := v) rfl Is24 rfl (SlF.r h1) rfl rfl (by omega)) ?_
    refine RG.pv rfl (PV.loadE rfl Ag81 rfl rfl (El.r h1 (getG (by omega)))) ?_
    refine RG.callF (vs := [_, _]) rfl rfl En138 rfl (moveRect_r (t := ⟨_, _, _⟩) ho (by simp) (RIn_gd hr (by omega)) ?_)
    refine RG.ot rfl (OT.bslice (F := rectT) (els := [_]) rfl El24 rfl (by decide) rfl (by decide) ⟨rfl, (Cl.c rfl), trivial⟩ fun v27 => ?_)
    refine RG.ot rfl (OT.append (v := u) (u := v27) (F := rectT) rfl El24 rfl (by decide) rfl rfl Rs.o (OneL.c (fun _ => rfl)) rfl (by first | omega | (simp <;> omega)) fun v28 => ?_)
    refine RG.pv rfl (PV.asg (v := v28) rfl rfl) ?_
    refine RG.nil ?_
    refine WP.region ?_
    refine RG.pv rfl (PV.mvI (.inl rfl) rfl) ?_
    refine RG.pv rfl (PV.add rfl rfl rfl (by omega)) ?_
    refine RG.pv rfl (PV.mvI (.inr rfl) rfl) ?_
    refine RG.nil ?_
    exact ⟨rfl, i + 1, (ys ++ [moveR ⟨o, 0, 0⟩ (gd xs i)]), v28, ⟨by omega, by rw [hys, imgs_take (by omega)]⟩, ⟨rfl, rfl, trivial⟩, ⟨rfl, rfl, trivial⟩, Cv.p, by omega⟩
  · have h2 := of_decide_eq_false h2
    have e : ys = imgs xs o := by rw [hys, List.take_of_length_le (by omega)]; rfl
    subst e
    have h0 : 0 < (imgs xs o).length := by omega
    have hri := imgs_in ho hr
    have hbx := boxL_in h0 hri
    obtain ⟨hm1, hm2⟩ := shifted_valid h0 hri
    have hbx2 := hbx
    simp only [RIn] at hbx2
    refine WP.exit ?_
    refine WP.seq ?_
    refine WP.region ?_
    refine RG.pv rfl (PV.move (v := u) rfl rfl) ?_
    refine RG.callF (vs := [u]) rfl rfl En147 rfl (l02Box_s Rs.o h0 ?_)
    refine RG.ot rfl (OT.alloc rfl Zr81 fun b7 => ?_)
    refine RG.ot rfl (OT.storeW (vs := [vi _, vi _, vi _, vi _]) rfl Sz81 rfl rfl (Cl.c rfl) rfl rfl (OneC.c rfl) ?_)
    refine RG.nil ?_
    refine WP.seq ?_
    refine WP.region ?_
    refine RG.pv rfl (PV.field rfl Fo81_0 rfl) ?_
    refine RG.pv rfl (PV.load1 rfl Sc2 rfl (Rd.blk rfl)) ?_
    refine RG.pv rfl (PV.sub rfl rfl rfl (by omega)) ?_
    refine RG.pv rfl (PV.field rfl Fo81_1 rfl) ?_
    refine RG.pv rfl (PV.load1 rfl Sc2 rfl (Rd.blk rfl)) ?_
    refine RG.pv rfl (PV.sub rfl rfl rfl (by omega)) ?_
    refine RG.pv rfl (PV.build (vs := [(1, [vi _]), (2, [vi _])]) (out := [_, _, _]) rfl Zr37 Pl37 ⟨rfl, (Cl.c rfl), ⟨rfl, (Cl.c rfl), trivial⟩⟩ rfl) ?_
    refine RG.pv rfl (PV.move (v := u) rfl rfl) ?_
    refine RG.callF (vs := [_, u]) rfl rfl En84 rfl (l03Moved_s (t := ⟨0, _, _⟩) Rs.o (by omega) (by simp) (by simp only; omega) (fun i hi => RIn_gd hri hi) (fun w40 => ?_))
    refine RG.pv rfl (PV.move (v := .tuple _) rfl rfl) ?_
    refine RG.pv rfl (PV.ext (v := w40) rfl rfl rfl) ?_
    refine RG.pv rfl (PV.ext rfl rfl rfl) ?_
    refine RG.pv rfl (PV.asg (v := w40) rfl rfl) ?_
    refine RG.pv rfl (PV.mvB (.inr rfl) rfl) ?_
    refine RG.nil ?_
    refine WP.seq ?_
    refine WP.region ?_
    refine RG.pv rfl (PV.mvI (.inr rfl) rfl) ?_
    refine RG.nil ?_
    refine WP.seq ?_
    refine WP.seq ?_
    refine WP.region ?_
    refine RG.pv rfl (PV.mvI (.inr rfl) rfl) ?_
    refine RG.nil ?_
    refine WP.block ?_
    rw [hm1, hm2]
    have hcb : ∀ i, i < (canon (bits (shifted (imgs xs o)))).length → _ := fun i hi => canon_bd hi
    have hcl := canon_len (bits (shifted (imgs xs o)))
    have hsg : sigO xs o = hashRs 17 (canon (bits (shifted (imgs xs o)))) := rfl
    generalize canon (bits (shifted (imgs xs o))) = C at *
    refine WP.loop2 [8] (fun (m : Nat) (g : Int) => m ≤ C.length ∧ g = hashRs 17 (C.take m)) (fun (m : Nat) (g : Int) => [(11, vi m), (10, vi g)]) (fun (m : Nat) (g : Int) => osl 81 rectT w40 C :: L) (fun (m : Nat) (g : Int) => C.length - m) 0 17 ⟨by omega, rfl⟩ ⟨rfl, rfl, trivial⟩ Cv.p ?_
    rintro m g τ1 ⟨hm, hg⟩
    refine WP.seq ?_
    refine WP.seq ?_
    refine WP.region ?_
    refine RG.pv rfl (PV.mvI (.inl rfl) rfl) ?_
    refine RG.pv rfl (PV.move (v := w40) rfl rfl) ?_
    refine RG.pv rfl (PV.len (v := w40) rfl Try.underlying24 rfl SlF.o) ?_
    refine RG.pv rfl (PV.lss rfl rfl rfl) ?_
    refine RG.nil ?_
    have hgb := hashRs_bd (h := 17) (C.take m) (by omega)
    rw [← hg] at hgb
    refine WP.cond rfl (fun h3 => ?_) (fun h3 => ?_)
    · have h3 := of_decide_eq_true h3
      obtain ⟨q1, q2, q3, q4, q5, q6, q7, q8⟩ := hcb m (by omega)
      refine WP.skip ?_
      refine WP.seq ?_
      refine WP.block ?_
      refine WP.seq ?_
      refine WP.region ?_
      refine RG.pv rfl (PV.mvI (.inl rfl) rfl) ?_
      refine RG.pv rfl (PV.move (v := w40) rfl rfl) ?_
      refine RG.pv rfl (PV.mvI (.inl rfl) rfl) ?_
      refine RG.pv rfl (PV.idxS (v := w40) rfl Is24 rfl SlF.o rfl rfl (by omega)) ?_
      refine RG.pv rfl (PV.field rfl Fo81_0 rfl) ?_
      refine RG.pv rfl (PV.loadF rfl Sc2 rfl rfl (El.o (getG (by omega))) rfl) ?_
      refine RG.pv rfl (PV.add rfl rfl rfl (by omega)) ?_
      refine RG.callF (vs := [_, _]) rfl rfl En148 rfl (l22Hash_s (by first | exact hgb | exact hashI_bd _ _) (by omega) ?_)
      refine RG.pv rfl (PV.mvI (.inr rfl) rfl) ?_
      refine RG.nil ?_
      refine WP.seq ?_
      refine WP.region ?_
      refine RG.pv rfl (PV.mvI (.inl rfl) rfl) ?_
      refine RG.pv rfl (PV.move (v := w40) rfl rfl) ?_
      refine RG.pv rfl (PV.mvI (.inl rfl) rfl) ?_
      refine RG.pv rfl (PV.idxS (v := w40) rfl Is24 rfl SlF.o rfl rfl (by omega)) ?_
      refine RG.pv rfl (PV.field rfl Fo81_1 rfl) ?_
      refine RG.pv rfl (PV.loadF rfl Sc2 rfl rfl (El.o (getG (by omega))) rfl) ?_
      refine RG.pv rfl (PV.add rfl rfl rfl (by omega)) ?_
      refine RG.callF (vs := [_, _]) rfl rfl En148 rfl (l22Hash_s (by first | exact hgb | exact hashI_bd _ _) (by omega) ?_)
      refine RG.pv rfl (PV.mvI (.inr rfl) rfl) ?_
      refine RG.nil ?_
      refine WP.seq ?_
      refine WP.region ?_
      refine RG.pv rfl (PV.mvI (.inl rfl) rfl) ?_
      refine RG.pv rfl (PV.move (v := w40) rfl rfl) ?_
      refine RG.pv rfl (PV.mvI (.inl rfl) rfl) ?_
      refine RG.pv rfl (PV.idxS (v := w40) rfl Is24 rfl SlF.o rfl rfl (by omega)) ?_
      refine RG.pv rfl (PV.field rfl Fo81_2 rfl) ?_
      refine RG.pv rfl (PV.loadF rfl Sc2 rfl rfl (El.o (getG (by omega))) rfl) ?_
      refine RG.pv rfl (PV.add rfl rfl rfl (by omega)) ?_
      refine RG.callF (vs := [_, _]) rfl rfl En148 rfl (l22Hash_s (by first | exact hgb | exact hashI_bd _ _) (by omega) ?_)
      refine RG.pv rfl (PV.mvI (.inr rfl) rfl) ?_
      refine RG.nil ?_
      refine WP.region ?_
      refine RG.pv rfl (PV.mvI (.inl rfl) rfl) ?_
      refine RG.pv rfl (PV.move (v := w40) rfl rfl) ?_
      refine RG.pv rfl (PV.mvI (.inl rfl) rfl) ?_
      refine RG.pv rfl (PV.idxS (v := w40) rfl Is24 rfl SlF.o rfl rfl (by omega)) ?_
      refine RG.pv rfl (PV.field rfl Fo81_3 rfl) ?_
      refine RG.pv rfl (PV.loadF rfl Sc2 rfl rfl (El.o (getG (by omega))) rfl) ?_
      refine RG.pv rfl (PV.add rfl rfl rfl (by omega)) ?_
      refine RG.callF (vs := [_, _]) rfl rfl En148 rfl (l22Hash_s (by first | exact hgb | exact hashI_bd _ _) (by omega) ?_)
      refine RG.pv rfl (PV.mvI (.inr rfl) rfl) ?_
      refine RG.nil ?_
      refine WP.region ?_
      refine RG.pv rfl (PV.mvI (.inl rfl) rfl) ?_
      refine RG.pv rfl (PV.add rfl rfl rfl (by omega)) ?_
      refine RG.pv rfl (PV.mvI (.inr rfl) rfl) ?_
      refine RG.nil ?_
      exact ⟨rfl, m + 1, _, ⟨by omega, by rw [hashRs_take (by omega), ← hg]; rfl⟩, ⟨rfl, rfl, trivial⟩, ⟨rfl, trivial⟩, Cv.p, by omega⟩
    · have h3 := of_decide_eq_false h3
      have e : sigO xs o = g := by rw [hsg, hg, List.take_of_length_le (by omega)]
      rw [e] at k
      refine WP.exit ?_
      refine WP.seq ?_
      refine WP.region ?_
      refine RG.pv rfl (PV.mvI (.inl rfl) rfl) ?_
      refine RG.pv rfl (PV.mvI (.inr rfl) rfl) ?_
      refine RG.nil ?_
      refine WP.ret ?_
      exact ⟨_, _, ResV.one rfl rfl, Cv.p, k⟩
def regSig (xs : List Rect) : Int := bif isReg xs && decide (0 < xs.length) then sigTo xs 7 else -1
theorem regSig_s {v : Value} {xs : List Rect} (h1 : Rs G L rectT v xs) (k : R (vi (regSig xs)) G L) : CallT Try.prog 29 #[v] G L R := by
  refine CallT.bd h1 fun hb => ?_
  refine CallT.enter (args := _) Try.func29 rfl rfl (by kernel_rfl) rfl ?_
  refine WP.seq ?_
  refine WP.region ?_
  refine RG.pv rfl (PV.mvI (.inr rfl) rfl) ?_
  refine RG.nil ?_
  refine WP.seq ?_
  refine WP.seq ?_
  refine WP.region ?_
  refine RG.pv rfl (PV.move (v := v) rfl rfl) ?_
  refine RG.callF (vs := [v]) rfl rfl En83 rfl (l03Ok_s (Rs.up h1) ?_)
  refine RG.pv rfl (PV.not rfl rfl) ?_
  refine RG.pv rfl (PV.mvB (.inl rfl) rfl) ?_
  refine RG.gs rfl rfl rfl (fun hp => (PV.move (v := v) rfl rfl)) ?_
  refine RG.gs rfl rfl rfl (fun hp => (PV.len (v := v) rfl Try.underlying24 (gs_t hp) (SlF.r h1))) ?_
  refine RG.gs rfl rfl rfl (fun hp => (PV.eql rfl (gs_t hp) rfl)) ?_
  refine RG.pv rfl (PV.pickO rfl rfl rfl (fun hq => gs_t (geqF hq))) ?_
  refine RG.nil ?_
  refine WP.cond rfl (fun h2 => ?_) (fun h2 => ?_)
  · have e : regSig xs = -1 := by
      cases h4 : isReg xs
      · simp [regSig, h4]
      · simp [h4] at h2; simp [regSig, h4, h2]
    rw [e] at k
    refine WP.seq ?_
    refine WP.region ?_
    refine RG.pv rfl (PV.mvI (.inr rfl) rfl) ?_
    refine RG.nil ?_
    refine WP.ret ?_
    exact ⟨_, _, ResV.one rfl rfl, Cv.p, k⟩
  · have hreg : isReg xs = true := by cases h4 : isReg xs <;> simp_all
    have hne : 0 < xs.length := by
      rcases Nat.eq_zero_or_pos xs.length with h | h
      · simp [hreg, h] at h2
      · exact h
    have hl := isReg_len hreg
    have e : regSig xs = sigTo xs 7 := by simp [regSig, hreg, hne]
    rw [e] at k
    refine WP.skip ?_
    refine WP.seq ?_
    refine WP.region ?_
    refine RG.pv rfl (PV.move (v := v) rfl rfl) ?_
    refine RG.callF (vs := [v, _]) rfl rfl En87 rfl (l22Turned_s (Rs.up h1) hne (by omega) (RIn_all hreg) (by omega) ?_)
    refine RG.pv rfl (PV.mvI (.inr rfl) rfl) ?_
    refine RG.nil ?_
    refine WP.seq ?_
    refine WP.seq ?_
    refine WP.region ?_
    refine RG.pv rfl (PV.mvI (.inr rfl) rfl) ?_
    refine RG.nil ?_
    refine WP.block ?_
    refine WP.loop2 [0] (fun (o : Nat) (m : Int) => 1 ≤ o ∧ o ≤ 8 ∧ m = sigTo xs (o - 1)) (fun (o : Nat) (m : Int) => [(4, vi o), (3, vi m)]) (fun (o : Nat) (m : Int) => L) (fun (o : Nat) (m : Int) => 8 - o) 1 (sigO xs 0) ⟨by omega, by omega, rfl⟩ ⟨rfl, rfl, trivial⟩ Cv.p ?_
    rintro o m τ ⟨ho0, ho7, hm⟩
    refine WP.seq ?_
    refine WP.seq ?_
    refine WP.region ?_
    refine RG.pv rfl (PV.mvI (.inl rfl) rfl) ?_
    refine RG.pv rfl (PV.lss rfl rfl rfl) ?_
    refine RG.nil ?_
    refine WP.cond rfl (fun h3 => ?_) (fun h3 => ?_)
    · have h3 := of_decide_eq_true h3
      refine WP.skip ?_
      refine WP.seq ?_
      refine WP.block ?_
      refine WP.region ?_
      refine RG.pv rfl (PV.mvI (.inl rfl) rfl) ?_
      refine RG.pv rfl (PV.move (v := v) rfl rfl) ?_
      refine RG.pv rfl (PV.mvI (.inl rfl) rfl) ?_
      refine RG.callF (vs := [v, _]) rfl rfl En87 rfl (l22Turned_s (Rs.up h1) hne (by omega) (RIn_all hreg) (by omega) ?_)
      refine RG.pv rfl (PV.min2 rfl rfl rfl) ?_
      refine RG.pv rfl (PV.mvI (.inr rfl) rfl) ?_
      refine RG.nil ?_
      refine WP.region ?_
      refine RG.pv rfl (PV.mvI (.inl rfl) rfl) ?_
      refine RG.pv rfl (PV.add rfl rfl rfl (by omega)) ?_
      refine RG.pv rfl (PV.mvI (.inr rfl) rfl) ?_
      refine RG.nil ?_
      refine ⟨rfl, o + 1, _, ⟨by omega, by omega, ?_⟩, ⟨rfl, rfl, trivial⟩, ⟨rfl, trivial⟩, Cv.p, by omega⟩
      rw [show o + 1 - 1 = (o - 1) + 1 by omega, sigTo, hm, show ((o - 1 : Nat) : Int) + 1 = (o : Int) by omega]
    · have h3 := of_decide_eq_false h3
      have e : sigTo xs 7 = m := by rw [hm, show o - 1 = 7 by omega]
      rw [e] at k
      refine WP.exit ?_
      refine WP.seq ?_
      refine WP.region ?_
      refine RG.pv rfl (PV.mvI (.inl rfl) rfl) ?_
      refine RG.pv rfl (PV.mvI (.inr rfl) rfl) ?_
      refine RG.nil ?_
      refine WP.ret ?_
      exact ⟨_, _, ResV.one rfl rfl, Cv.p, k⟩
theorem four_bd {a b c d : Int} (ha : 0 ≤ a ∧ a ≤ 4294967296) (hb : 0 ≤ b ∧ b ≤ 4294967296) (hc : 0 ≤ c ∧ c ≤ 4294967296) (hd : 0 ≤ d ∧ d ≤ 4294967296) : ∀ i, i < [a, b, c, d].length → 0 ≤ gd [a, b, c, d] i ∧ gd [a, b, c, d] i ≤ 4294967296 := by
  intro i hi
  match i, hi with
  | 0, _ => simpa [gd] using ha
  | 1, _ => simpa [gd] using hb
  | 2, _ => simpa [gd] using hc
  | 3, _ => simpa [gd] using hd
theorem signature_s {v : Value} {xs : List Rect} (h1 : Rs G L rectT v xs) (hne : 0 < xs.length) (hb2 : xs.length ≤ 1048576) (hr : ∀ r ∈ xs, RIn 40 r) (k : R (vi (sigTo xs 7)) G L) : CallT Try.prog 86 #[v] G L R := by
  refine CallT.enter (args := _) Try.func86 rfl rfl (by kernel_rfl) rfl ?_
  refine WP.seq ?_
  refine WP.region ?_
  refine RG.pv rfl (PV.mvI (.inr rfl) rfl) ?_
  refine RG.nil ?_
  refine WP.seq ?_
  refine WP.region ?_
  refine RG.pv rfl (PV.mvI (.inr rfl) rfl) ?_
  refine RG.nil ?_
  refine WP.seq ?_
  refine WP.seq ?_
  refine WP.region ?_
  refine RG.pv rfl (PV.mvI (.inl rfl) rfl) ?_
  refine RG.nil ?_
  refine WP.block ?_
  refine WP.loop2 [0] (fun (o : Nat) (m : Int) => o ≤ 8 ∧ m = (if o = 0 then -1 else sigTo xs (o - 1))) (fun (o : Nat) (m : Int) => [(17, vi o), (3, vi m)]) (fun (o : Nat) (m : Int) => L) (fun (o : Nat) (m : Int) => 8 - o) 0 (-1) ⟨by omega, rfl⟩ ⟨rfl, rfl, trivial⟩ Cv.p ?_
  rintro o m τ ⟨ho7, hm⟩
  refine WP.seq ?_
  refine WP.region ?_
  refine RG.pv rfl (PV.lss rfl rfl rfl) ?_
  refine RG.nil ?_
  refine WP.seq ?_
  refine WP.cond rfl (fun h2 => ?_) (fun h2 => ?_)
  · have h2 := of_decide_eq_true h2
    have ho2 : 0 ≤ (o : Int) ∧ (o : Int) ≤ 7 := ⟨by omega, by omega⟩
    refine WP.skip ?_
    refine WP.seq ?_
    refine WP.block ?_
    refine WP.seq ?_
    refine WP.region ?_
    refine RG.pv rfl (PV.mvI (.inl rfl) rfl) ?_
    refine RG.pv rfl (PV.mvI (.inr rfl) rfl) ?_
    refine RG.nil ?_
    refine WP.seq ?_
    refine WP.region ?_
    refine RG.ot rfl (OT.bslice (F := rectT) (els := []) rfl El24 rfl (by decide) rfl (by decide) trivial fun v20 => ?_)
    refine RG.pv rfl (PV.asg (v := v20) rfl rfl) ?_
    refine RG.nil ?_
    refine WP.seq ?_
    refine WP.seq ?_
    refine WP.region ?_
    refine RG.pv rfl (PV.move (v := v) rfl rfl) ?_
    refine RG.pv rfl (PV.len (v := v) rfl Try.underlying24 rfl (SlF.r h1)) ?_
    refine RG.pv rfl (PV.mvI (.inl rfl) rfl) ?_
    refine RG.nil ?_
    refine WP.block ?_
    refine WP.loop3 [0, 3, 4, 17, 21, 22] (fun (i : Nat) (ys : List Rect) (u : Value) => i ≤ xs.length ∧ ys = (xs.take i).map (moveR ⟨o, 0, 0⟩)) (fun (i : Nat) (ys : List Rect) (u : Value) => [(23, vi i), (5, u)]) (fun (i : Nat) (ys : List Rect) (u : Value) => osl 81 rectT u ys :: L) (fun (i : Nat) (ys : List Rect) (u : Value) => xs.length - i) 0 [] v20 ⟨by omega, rfl⟩ ⟨rfl, rfl, trivial⟩ Cv.p ?_
    rintro i ys u τ1 ⟨hi, hys⟩
    refine WP.seq ?_
    refine WP.region ?_
    refine RG.pv rfl (PV.lss rfl rfl rfl) ?_
    refine RG.nil ?_
    refine WP.seq ?_
    have hyl : ys.length = i := by rw [hys]; simp; omega
    refine WP.cond rfl (fun h3 => ?_) (fun h3 => ?_)
    · have h3 := of_decide_eq_true h3
      refine WP.skip ?_
      refine WP.seq ?_
      refine WP.block ?_
      refine WP.seq ?_
      refine WP.region ?_
      refine RG.pv rfl (PV.idxS (v := v) rfl Is24 rfl (SlF.r h1) rfl rfl (by omega)) ?_
      refine RG.pv rfl (PV.loadE rfl Ag81 rfl rfl (El.r h1 (getG (by omega)))) ?_
      refine RG.ot rfl (OT.alloc rfl Zr81 fun b7 => ?_)
      refine RG.ot rfl (OT.storeW (vs := [vi _, vi _, vi _, vi _]) rfl Sz81 rfl rfl (Cl.c rfl) rfl rfl (OneC.c rfl) ?_)
      refine RG.nil ?_
      refine WP.region ?_
      refine RG.pv rfl (PV.move (v := u) rfl rfl) ?_
      refine RG.pv rfl (PV.mvI (.inl rfl) rfl) ?_
      refine RG.pv rfl (PV.build (vs := [(0, [vi _])]) (out := [_, _, _]) rfl Zr37 Pl37 ⟨rfl, (Cl.c rfl), trivial⟩ rfl) ?_
      refine RG.pv rfl (PV.loadW rfl Ag81 rfl rfl) ?_
      refine RG.callF (vs := [_, _]) rfl rfl En143 rfl (moveRect_s (t := ⟨_, _, _⟩) ho2 (by simp) (RIn_gd hr (by omega)) ?_)
      refine RG.ot rfl (OT.bslice (F := rectT) (els := [_]) rfl El24 rfl (by decide) rfl (by decide) ⟨rfl, (Cl.c rfl), trivial⟩ fun v32 => ?_)
      refine RG.ot rfl (OT.append (v := u) (u := v32) (F := rectT) rfl El24 rfl (by decide) rfl rfl Rs.o (OneL.c (fun _ => rfl)) rfl (by first | omega | (simp <;> omega)) fun v33 => ?_)
      refine RG.pv rfl (PV.asg (v := v33) rfl rfl) ?_
      refine RG.nil ?_
      refine WP.region ?_
      refine RG.pv rfl (PV.add rfl rfl rfl (by omega)) ?_
      refine RG.pv rfl (PV.mvI (.inl rfl) rfl) ?_
      refine RG.nil ?_
      exact ⟨rfl, i + 1, (ys ++ [moveR ⟨o, 0, 0⟩ (gd xs i)]), v33, ⟨by omega, by rw [hys, imgs_take (by omega)]⟩, ⟨rfl, rfl, trivial⟩, ⟨rfl, rfl, rfl, rfl, rfl, rfl, trivial⟩, Cv.p, by omega⟩
    · have h3 := of_decide_eq_false h3
      have e : ys = imgs xs o := by rw [hys, List.take_of_length_le (by omega)]; rfl
      subst e
      have h0 : 0 < (imgs xs o).length := by omega
      have hri := imgs_in (o := (o : Int)) ⟨by omega, by omega⟩ hr
      have hbx := boxL_in h0 hri
      simp only [RIn] at hbx
      have hbx2 : ∀ i, i < (imgs xs o).length → RIn 40 (gd (imgs xs o) i) := fun i hi => RIn_gd hri hi
      refine WP.exit ?_
      refine WP.seq ?_
      refine WP.region ?_
      refine RG.pv rfl (PV.move (v := u) rfl rfl) ?_
      refine RG.callF (vs := [u]) rfl rfl En144 rfl (boxOf_s Rs.o h0 ?_)
      refine RG.pv rfl (PV.build0 rfl Try.underlying168 ⟨80, by kernel_rfl⟩ (zeroB_spec (n := 6400) (by kernel_rfl))) ?_
      refine RG.ot rfl (OT.boxG rfl rfl fun b38 => ?_)
      refine RG.ot rfl (OT.alloc rfl Zr81 fun b8 => ?_)
      refine RG.ot rfl (OT.storeW (vs := [vi _, vi _, vi _, vi _]) rfl Sz81 rfl rfl (Cl.c rfl) rfl rfl (OneC.c rfl) ?_)
      refine RG.pv rfl (PV.mvP (.inr rfl) rfl) ?_
      refine RG.nil ?_
      refine WP.seq ?_
      refine WP.regionQ (by kernel_rfl) (by kernel_rfl) ?_
      refine RQ.pv rfl (PV.field rfl Fo81_0 rfl) ?_
      refine RQ.pv rfl (PV.load1 rfl Sc2 rfl (Rd.blk rfl)) ?_
      refine RQ.pv rfl (PV.sub rfl rfl rfl (by omega)) ?_
      refine RQ.pv rfl (PV.field rfl Fo81_1 rfl) ?_
      refine RQ.pv rfl (PV.load1 rfl Sc2 rfl (Rd.blk rfl)) ?_
      refine RQ.pv rfl (PV.sub rfl rfl rfl (by omega)) ?_
      refine RQ.pv rfl (PV.mvI (.inr rfl) rfl) ?_
      refine RQ.pv rfl (PV.mvI (.inr rfl) rfl) ?_
      refine RQ.nil ?_
      refine WP.seq ?_
      refine WP.seq ?_
      refine WP.region ?_
      refine RG.pv rfl (PV.move (v := u) rfl rfl) ?_
      refine RG.pv rfl (PV.len (v := u) rfl Try.underlying24 rfl SlF.o) ?_
      refine RG.pv rfl (PV.mvI (.inl rfl) rfl) ?_
      refine RG.nil ?_
      refine WP.block ?_
      refine WP.loop2 [0, 3, 9, 10, 11, 17, 45, 46] (fun (i : Nat) (cs : List Bool) => i ≤ (imgs xs o).length ∧ cs.length = 6400 ∧ ∀ y x, y < 80 → x < 80 → gb cs y x = ((shifted (imgs xs o)).take i).any fun r => inR r y x) (fun (i : Nat) (cs : List Bool) => [(47, vi i)]) (fun (i : Nat) (cs : List Bool) => grd b38 cs :: osl 81 rectT u (imgs xs o) :: L) (fun (i : Nat) (cs : List Bool) => (imgs xs o).length - i) 0 (List.replicate 6400 false) ⟨by omega, by simp, fun y x _ _ => by rw [gb_rep]; simp⟩ ⟨rfl, trivial⟩ Cv.p ?_
      rintro i cs τ2 ⟨hi2, hlc, hc⟩
      refine WP.seq ?_
      refine WP.region ?_
      refine RG.pv rfl (PV.lss rfl rfl rfl) ?_
      refine RG.nil ?_
      refine WP.seq ?_
      refine WP.cond rfl (fun h4 => ?_) (fun h4 => ?_)
      · have h4 := of_decide_eq_true h4
        have hri2 := hbx2 i (by omega)
        simp only [RIn] at hri2
        refine WP.skip ?_
        refine WP.seq ?_
        refine WP.block ?_
        refine WP.seq ?_
        refine WP.region ?_
        refine RG.pv rfl (PV.idxS (v := u) rfl Is24 rfl SlF.o rfl rfl (by omega)) ?_
        refine RG.pv rfl (PV.loadE rfl Ag81 rfl rfl (El.o (getG (by omega)))) ?_
        refine RG.ot rfl (OT.alloc rfl Zr81 fun b13 => ?_)
        refine RG.ot rfl (OT.storeW (vs := [vi _, vi _, vi _, vi _]) rfl Sz81 rfl rfl (Cl.c rfl) rfl rfl (OneC.c rfl) ?_)
        refine RG.nil ?_
        refine WP.region ?_
        refine RG.pv rfl (PV.mvP (.inl rfl) rfl) ?_
        refine RG.pv rfl (PV.field rfl Fo81_0 rfl) ?_
        refine RG.pv rfl (PV.load1 rfl Sc2 rfl (Rd.blk rfl)) ?_
        refine RG.pv rfl (PV.mvI (.inl rfl) rfl) ?_
        refine RG.pv rfl (PV.add rfl rfl rfl (by omega)) ?_
        refine RG.pv rfl (PV.field rfl Fo81_1 rfl) ?_
        refine RG.pv rfl (PV.load1 rfl Sc2 rfl (Rd.blk rfl)) ?_
        refine RG.pv rfl (PV.mvI (.inl rfl) rfl) ?_
        refine RG.pv rfl (PV.add rfl rfl rfl (by omega)) ?_
        refine RG.pv rfl (PV.field rfl Fo81_2 rfl) ?_
        refine RG.pv rfl (PV.load1 rfl Sc2 rfl (Rd.blk rfl)) ?_
        refine RG.pv rfl (PV.mvI (.inl rfl) rfl) ?_
        refine RG.pv rfl (PV.add rfl rfl rfl (by omega)) ?_
        refine RG.pv rfl (PV.field rfl Fo81_3 rfl) ?_
        refine RG.pv rfl (PV.load1 rfl Sc2 rfl (Rd.blk rfl)) ?_
        refine RG.pv rfl (PV.mvI (.inl rfl) rfl) ?_
        refine RG.pv rfl (PV.add rfl rfl rfl (by omega)) ?_
        refine RG.pv rfl (PV.build (vs := [(0, [vi _]), (1, [vi _]), (2, [vi _]), (3, [vi _])]) (out := [_, _, _, _]) rfl Zr81 Pl81 ⟨rfl, (Cl.c rfl), ⟨rfl, (Cl.c rfl), ⟨rfl, (Cl.c rfl), ⟨rfl, (Cl.c rfl), trivial⟩⟩⟩⟩ rfl) ?_
        refine RG.callF (vs := [(.pointer (some ⟨b38, 0, none⟩)), _]) rfl rfl En145 rfl (CallT.exB (put_s (r := ⟨_, _, _, _⟩) (by assumption) (fun bs' hb' hg' => ?_)))
        refine RG.nil ?_
        refine WP.region ?_
        refine RG.pv rfl (PV.add rfl rfl rfl (by omega)) ?_
        refine RG.pv rfl (PV.mvI (.inl rfl) rfl) ?_
        refine RG.nil ?_
        refine ⟨rfl, i + 1, bs', ⟨by omega, hb', fun y x h5 h6 => ?_⟩, ⟨rfl, trivial⟩, ⟨rfl, rfl, rfl, rfl, rfl, rfl, rfl, rfl, trivial⟩, Cv.p, by omega⟩
        rw [hg' y x h5 h6, hc y x h5 h6, List.take_add_one, getG (by simp [shifted]; omega), shifted, gd_map _ (by omega), List.any_append]
        simp only [Option.toList_some, List.any_cons, List.any_nil, Bool.or_false]
      · have h4 := of_decide_eq_false h4
        have e : cs = bits (shifted (imgs xs o)) := bits_eq hlc fun y x h5 h6 => by rw [hc y x h5 h6, List.take_of_length_le (by simp [shifted]; omega)]
        subst e
        have hcb : ∀ i, i < (canon (bits (shifted (imgs xs o)))).length → _ := fun i hi => canon_bd hi
        have hcl := canon_len (bits (shifted (imgs xs o)))
        have hsg : sigO xs o = hashRs 17 (canon (bits (shifted (imgs xs o)))) := rfl
        refine WP.exit ?_
        refine WP.seq ?_
        refine WP.region ?_
        refine RG.pv rfl (PV.mvI (.inr rfl) rfl) ?_
        refine RG.nil ?_
        refine WP.seq ?_
        refine WP.seq ?_
        refine WP.region ?_
        refine RG.pv rfl (PV.mvP (.inl rfl) rfl) ?_
        refine RG.callF (vs := [(.pointer (some ⟨b38, 0, none⟩))]) rfl rfl En142 rfl (CallT.exB (region_s (bits_length _) (fun v72 => ?_)))
        refine RG.pv rfl (PV.len (v := v72) rfl Try.underlying24 rfl SlF.o) ?_
        refine RG.pv rfl (PV.mvI (.inl rfl) rfl) ?_
        refine RG.nil ?_
        refine WP.block ?_
        generalize canon (bits (shifted (imgs xs o))) = C at *
        refine WP.loop2 [0, 3, 17, 72, 73] (fun (j : Nat) (g : Int) => j ≤ C.length ∧ g = hashRs 17 (C.take j)) (fun (j : Nat) (g : Int) => [(74, vi j), (14, vi g)]) (fun (j : Nat) (g : Int) => osl 81 rectT v72 C :: L) (fun (j : Nat) (g : Int) => C.length - j) 0 17 ⟨by omega, rfl⟩ ⟨rfl, rfl, trivial⟩ Cv.p ?_
        rintro j g τ3 ⟨hj, hg⟩
        refine WP.seq ?_
        refine WP.region ?_
        refine RG.pv rfl (PV.lss rfl rfl rfl) ?_
        refine RG.nil ?_
        refine WP.seq ?_
        have hgb := hashRs_bd (h := 17) (C.take j) (by omega)
        rw [← hg] at hgb
        refine WP.cond rfl (fun h5 => ?_) (fun h5 => ?_)
        · have h5 := of_decide_eq_true h5
          obtain ⟨q1, q2, q3, q4, q5, q6, q7, q8⟩ := hcb j (by omega)
          refine WP.skip ?_
          refine WP.seq ?_
          refine WP.block ?_
          refine WP.seq ?_
          refine WP.region ?_
          refine RG.pv rfl (PV.idxS (v := v72) rfl Is24 rfl SlF.o rfl rfl (by omega)) ?_
          refine RG.pv rfl (PV.loadE rfl Ag81 rfl rfl (El.o (getG (by omega)))) ?_
          refine RG.ot rfl (OT.alloc rfl Zr81 fun b16 => ?_)
          refine RG.ot rfl (OT.storeW (vs := [vi _, vi _, vi _, vi _]) rfl Sz81 rfl rfl (Cl.c rfl) rfl rfl (OneC.c rfl) ?_)
          refine RG.nil ?_
          refine WP.region ?_
          refine RG.pv rfl (PV.mvI (.inl rfl) rfl) ?_
          refine RG.pv rfl (PV.field rfl Fo81_0 rfl) ?_
          refine RG.pv rfl (PV.load1 rfl Sc2 rfl (Rd.blk rfl)) ?_
          refine RG.pv rfl (PV.add rfl rfl rfl (by omega)) ?_
          refine RG.pv rfl (PV.field rfl Fo81_1 rfl) ?_
          refine RG.pv rfl (PV.load1 rfl Sc2 rfl (Rd.blk rfl)) ?_
          refine RG.pv rfl (PV.add rfl rfl rfl (by omega)) ?_
          refine RG.pv rfl (PV.field rfl Fo81_2 rfl) ?_
          refine RG.pv rfl (PV.load1 rfl Sc2 rfl (Rd.blk rfl)) ?_
          refine RG.pv rfl (PV.add rfl rfl rfl (by omega)) ?_
          refine RG.pv rfl (PV.field rfl Fo81_3 rfl) ?_
          refine RG.pv rfl (PV.load1 rfl Sc2 rfl (Rd.blk rfl)) ?_
          refine RG.pv rfl (PV.add rfl rfl rfl (by omega)) ?_
          refine RG.ot rfl (OT.bslice (F := intT) (els := [_, _, _, _]) rfl El116 rfl (by decide) rfl (by decide) ⟨rfl, (Cl.c rfl), ⟨rfl, (Cl.c rfl), ⟨rfl, (Cl.c rfl), ⟨rfl, (Cl.c rfl), trivial⟩⟩⟩⟩ fun v91 => ?_)
          refine RG.callF (vs := [_, v91]) rfl rfl En146 rfl (hash_s Rs.o hgb (four_bd (by omega) (by omega) (by omega) (by omega)) ?_)
          refine RG.pv rfl (PV.mvI (.inr rfl) rfl) ?_
          refine RG.nil ?_
          refine WP.region ?_
          refine RG.pv rfl (PV.add rfl rfl rfl (by omega)) ?_
          refine RG.pv rfl (PV.mvI (.inl rfl) rfl) ?_
          refine RG.nil ?_
          exact ⟨rfl, j + 1, _, ⟨by omega, by rw [hashRs_take (by omega), ← hg]; rfl⟩, ⟨rfl, rfl, trivial⟩, ⟨rfl, rfl, rfl, rfl, rfl, trivial⟩, Cv.p, by omega⟩
        · have h5 := of_decide_eq_false h5
          have e : sigO xs o = g := by rw [hsg, hg, List.take_of_length_le (by omega)]
          have hsb := sigTo_bd xs (o - 1)
          refine WP.exit ?_
          refine WP.seq ?_
          refine WP.region ?_
          refine RG.pv rfl (PV.mvI (.inl rfl) rfl) ?_
          refine RG.pv rfl (PV.lss rfl rfl rfl) ?_
          refine RG.pv rfl (PV.mvB (.inl rfl) rfl) ?_
          refine RG.gs rfl rfl rfl (fun hp => (PV.mvI (.inl rfl) rfl)) ?_
          refine RG.gs rfl rfl rfl (fun hp => (PV.mvI (.inl rfl) rfl)) ?_
          refine RG.gs rfl rfl rfl (fun hp => (PV.lss rfl (gs_t hp) (gs_t hp))) ?_
          refine RG.pv rfl (PV.pickO rfl rfl rfl (fun hq => gs_t (geqF hq))) ?_
          refine RG.nil ?_
          refine WP.cond rfl (fun h6 => ?_) (fun h6 => ?_)
          · refine WP.region ?_
            refine RG.pv rfl (PV.mvI (.inl rfl) rfl) ?_
            refine RG.pv rfl (PV.mvI (.inr rfl) rfl) ?_
            refine RG.nil ?_
            refine WP.region ?_
            refine RG.pv rfl (PV.add rfl rfl rfl (by omega)) ?_
            refine RG.pv rfl (PV.mvI (.inl rfl) rfl) ?_
            refine RG.nil ?_
            refine ⟨rfl, o + 1, _, ⟨by omega, ?_⟩, ⟨rfl, rfl, trivial⟩, ⟨rfl, trivial⟩, Cv.p, by omega⟩
            by_cases c : o = 0
            · subst c; simp [sigTo, ← e]
            · rw [if_neg c] at hm
              have e2 : sigTo xs o = min (sigTo xs (o - 1)) (sigO xs o) := by
                rw [show o = (o - 1) + 1 by omega, sigTo, Nat.add_sub_cancel, show ((o - 1 : Nat) : Int) + 1 = ((o - 1 + 1 : Nat) : Int) by omega]
              simp at h6
              rw [if_neg (by omega), Nat.add_sub_cancel, e2, e, ← hm]; omega
          · refine WP.skip ?_
            refine WP.region ?_
            refine RG.pv rfl (PV.add rfl rfl rfl (by omega)) ?_
            refine RG.pv rfl (PV.mvI (.inl rfl) rfl) ?_
            refine RG.nil ?_
            refine ⟨rfl, o + 1, _, ⟨by omega, ?_⟩, ⟨rfl, rfl, trivial⟩, ⟨rfl, trivial⟩, Cv.p, by omega⟩
            by_cases c : o = 0
            · subst c; simp [hm] at h6
            · rw [if_neg c] at hm
              have e2 : sigTo xs o = min (sigTo xs (o - 1)) (sigO xs o) := by
                rw [show o = (o - 1) + 1 by omega, sigTo, Nat.add_sub_cancel, show ((o - 1 : Nat) : Int) + 1 = ((o - 1 + 1 : Nat) : Int) by omega]
              simp at h6
              rw [if_neg (by omega), Nat.add_sub_cancel, e2, e, ← hm]; omega
  · have h2 := of_decide_eq_false h2
    have e : sigTo xs 7 = m := by rw [hm, if_neg (by omega), show o - 1 = 7 by omega]
    rw [e] at k
    refine WP.exit ?_
    refine WP.seq ?_
    refine WP.region ?_
    refine RG.pv rfl (PV.mvI (.inl rfl) rfl) ?_
    refine RG.pv rfl (PV.mvI (.inr rfl) rfl) ?_
    refine RG.nil ?_
    refine WP.ret ?_
    exact ⟨_, _, ResV.one rfl rfl, Cv.p, k⟩
theorem regSig_i {v : Value} {xs : List Rect} (h1 : Rs G L rectT v xs) (k : R (vi (regSig xs)) G L) : CallT Try.prog 27 #[v] G L R := by
  refine CallT.enter (args := _) Try.func27 rfl rfl (by kernel_rfl) rfl ?_
  refine WP.seq ?_
  refine WP.region ?_
  refine RG.pv rfl (PV.mvI (.inr rfl) rfl) ?_
  refine RG.nil ?_
  refine WP.seq ?_
  refine WP.seq ?_
  refine WP.region ?_
  refine RG.pv rfl (PV.move (v := v) rfl rfl) ?_
  refine RG.callF (vs := [v]) rfl rfl En85 rfl (isRegion_s (Rs.up h1) ?_)
  refine RG.pv rfl (PV.not rfl rfl) ?_
  refine RG.pv rfl (PV.mvB (.inl rfl) rfl) ?_
  refine RG.gs rfl rfl rfl (fun hp => (PV.move (v := v) rfl rfl)) ?_
  refine RG.gs rfl rfl rfl (fun hp => (PV.len (v := v) rfl Try.underlying24 (gs_t hp) (SlF.r h1))) ?_
  refine RG.gs rfl rfl rfl (fun hp => (PV.eql rfl (gs_t hp) rfl)) ?_
  refine RG.pv rfl (PV.pickO rfl rfl rfl (fun hq => gs_t (geqF hq))) ?_
  refine RG.nil ?_
  refine WP.cond rfl (fun h2 => ?_) (fun h2 => ?_)
  · have e : regSig xs = -1 := by
      cases h4 : isReg xs
      · simp [regSig, h4]
      · simp [h4] at h2; simp [regSig, h4, h2]
    rw [e] at k
    refine WP.seq ?_
    refine WP.region ?_
    refine RG.pv rfl (PV.mvI (.inr rfl) rfl) ?_
    refine RG.nil ?_
    refine WP.ret ?_
    exact ⟨_, _, ResV.one rfl rfl, Cv.p, k⟩
  · have hreg : isReg xs = true := by cases h4 : isReg xs <;> simp_all
    have hne : 0 < xs.length := by
      rcases Nat.eq_zero_or_pos xs.length with h | h
      · simp [hreg, h] at h2
      · exact h
    have hl := isReg_len hreg
    have e : regSig xs = sigTo xs 7 := by simp [regSig, hreg, hne]
    rw [e] at k
    refine WP.skip ?_
    refine WP.seq ?_
    refine WP.region ?_
    refine RG.pv rfl (PV.move (v := v) rfl rfl) ?_
    refine RG.callF (vs := [v]) rfl rfl En86 rfl (signature_s (Rs.up h1) hne (by omega) (RIn_all hreg) ?_)
    refine RG.pv rfl (PV.mvI (.inr rfl) rfl) ?_
    refine RG.nil ?_
    refine WP.ret ?_
    exact ⟨_, _, ResV.one rfl rfl, Cv.p, k⟩
end Go.Proofs.Ytilccgeldnlgnaa
