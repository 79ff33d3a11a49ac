/-
  Contracts of functions and plain facts that the last text of this folder uses, part 3.
-/
import Derived.Test.YtmomfgfmnpblpaaGreatMF2
import Derived.Sort.AssemblyPlain
import Derived.MapKept
namespace Go.Proofs.YtmomfgfmnpblpaaGreat
set_option linter.unusedVariables false
set_option linter.unusedSimpArgs false
open Go
set_option maxRecDepth 20000
set_option linter.unusedSimpArgs false
variable {G : Gh} {L : List Ch} {R : Value → Gh → List Ch → Prop}
theorem common_s {a b : Rect} (k : R (vrect (cmn a b)) G L) : CallT Tryz.prog 180 #[vrect a, vrect b] G L R := by
  refine CallT.enter (args := _) Tryz.func180 rfl rfl (by kernel_rfl) rfl ?_
  refine WP.seq ?_
  refine WP.region ?_
  refine RG.ot rfl (OT.box (cs := rectT.enc a) rfl rfl rfl fun b2 => ?_)
  refine RG.ot rfl (OT.box (cs := rectT.enc b) rfl rfl rfl fun b3 => ?_)
  refine RG.ot rfl (OT.alloc rfl Zr61 fun b4 => ?_)
  refine RG.nil ?_
  refine WP.seq ?_
  refine WP.region ?_
  refine RG.pv rfl (PV.field rfl Fo61_0 rfl) ?_
  refine RG.pv rfl (PV.load1 rfl Sc2 rfl (Rd.blk rfl)) ?_
  refine RG.pv rfl (PV.field rfl Fo61_0 rfl) ?_
  refine RG.pv rfl (PV.load1 rfl Sc2 rfl (Rd.blk rfl)) ?_
  refine RG.pv rfl (PV.max2 rfl rfl rfl) ?_
  refine RG.pv rfl (PV.field rfl Fo61_1 rfl) ?_
  refine RG.pv rfl (PV.load1 rfl Sc2 rfl (Rd.blk rfl)) ?_
  refine RG.pv rfl (PV.field rfl Fo61_1 rfl) ?_
  refine RG.pv rfl (PV.load1 rfl Sc2 rfl (Rd.blk rfl)) ?_
  refine RG.pv rfl (PV.max2 rfl rfl rfl) ?_
  refine RG.pv rfl (PV.field rfl Fo61_2 rfl) ?_
  refine RG.pv rfl (PV.load1 rfl Sc2 rfl (Rd.blk rfl)) ?_
  refine RG.pv rfl (PV.field rfl Fo61_2 rfl) ?_
  refine RG.pv rfl (PV.load1 rfl Sc2 rfl (Rd.blk rfl)) ?_
  refine RG.pv rfl (PV.min2 rfl rfl rfl) ?_
  refine RG.pv rfl (PV.field rfl Fo61_3 rfl) ?_
  refine RG.pv rfl (PV.load1 rfl Sc2 rfl (Rd.blk rfl)) ?_
  refine RG.pv rfl (PV.field rfl Fo61_3 rfl) ?_
  refine RG.pv rfl (PV.load1 rfl Sc2 rfl (Rd.blk rfl)) ?_
  refine RG.pv rfl (PV.min2 rfl rfl rfl) ?_
  refine RG.pv rfl (PV.build (vs := [(0, [vi _]), (1, [vi _]), (2, [vi _]), (3, [vi _])]) (out := [_, _, _, _]) rfl Zr61 Pl61 ⟨rfl, (Cl.c rfl), ⟨rfl, (Cl.c rfl), ⟨rfl, (Cl.c rfl), ⟨rfl, (Cl.c rfl), trivial⟩⟩⟩⟩ rfl) ?_
  refine RG.ot rfl (OT.storeW (vs := [vi _, vi _, vi _, vi _]) rfl Sz61 rfl rfl (Cl.c rfl) rfl rfl (OneC.c rfl) ?_)
  refine RG.nil ?_
  refine WP.ret ?_
  exact ⟨_, _, ResV.one rfl (RV1.cell rfl Ag61 rfl), Cv.p, k⟩
theorem ovl_s {a b : Rect} (k : R (.bool (ovl a b)) G L) : CallT Tryz.prog 220 #[vrect a, vrect b] G L R := by
  refine CallT.enter (args := _) Tryz.func220 rfl rfl (by kernel_rfl) rfl ?_
  refine WP.seq ?_
  refine WP.region ?_
  refine RG.ot rfl (OT.box (cs := rectT.enc a) rfl rfl rfl fun b2 => ?_)
  refine RG.ot rfl (OT.box (cs := rectT.enc b) rfl rfl rfl fun b3 => ?_)
  refine RG.pv rfl (PV.mvB (.inr rfl) rfl) ?_
  refine RG.nil ?_
  refine WP.seq ?_
  refine WP.region ?_
  refine RG.pv rfl (PV.loadW rfl Ag61 rfl rfl) ?_
  refine RG.callF (vs := [_]) rfl rfl En181 rfl (validRect_s ?_)
  refine RG.pv rfl (PV.mvB (.inl rfl) rfl) ?_
  refine RG.gs rfl rfl rfl (fun hp => (PV.loadW rfl Ag61 rfl rfl)) ?_
  refine RG.gsC rfl rfl rfl rfl En181 (fun hp => ⟨_, (acons (gs_t hp) anil), validRect_s ⟨rfl, rfl, rfl⟩⟩) ?_
  refine RG.pv rfl (PV.pickA rfl rfl (fun hq => gs_t (geqT hq)) rfl) ?_
  refine RG.pv rfl (PV.mvB (.inl rfl) rfl) ?_
  refine RG.gs rfl rfl rfl (fun hp => (PV.loadW rfl Ag61 rfl rfl)) ?_
  refine RG.gs rfl rfl rfl (fun hp => (PV.loadW rfl Ag61 rfl rfl)) ?_
  refine RG.gsC rfl rfl rfl rfl En180 (fun hp => ⟨_, (acons (gs_t hp) (acons (gs_t hp) anil)), common_s ⟨rfl, rfl, rfl⟩⟩) ?_
  refine RG.gsC rfl rfl rfl rfl En181 (fun hp => ⟨_, (acons (gs_t hp) anil), validRect_s ⟨rfl, rfl, rfl⟩⟩) ?_
  refine RG.pv rfl (PV.pickA rfl rfl (fun hq => gs_t (geqT hq)) rfl) ?_
  refine RG.pv rfl (PV.mvB (.inr rfl) rfl) ?_
  refine RG.nil ?_
  refine WP.ret ?_
  exact ⟨_, _, ResV.one rfl rfl, Cv.p, k⟩
theorem gd_mem {α : Type} [Inhabited α] {xs : List α} {i : Nat} (h : i < xs.length) : gd xs i ∈ xs := by rw [gd_eq h]; exact List.getElem_mem h
theorem any2_false {α : Type} [Inhabited α] {p : α → α → Bool} {xs ys : List α} (h : ∀ i, i < xs.length → ∀ j, j < ys.length → p (gd xs i) (gd ys j) = false) : (xs.any fun x => ys.any fun y => p x y) = false := by
  rw [List.any_eq_false]
  intro x hx
  obtain ⟨i, hi, rfl⟩ := List.getElem_of_mem hx
  rw [Bool.not_eq_true, List.any_eq_false]
  intro y hy
  obtain ⟨j, hj, rfl⟩ := List.getElem_of_mem hy
  have := h i hi j hj
  rw [gd_eq hi, gd_eq hj] at this; simp [this]
theorem any2_true {α : Type} [Inhabited α] {p : α → α → Bool} {xs ys : List α} {i j : Nat} (hi : i < xs.length) (hj : j < ys.length) (h : p (gd xs i) (gd ys j) = true) : (xs.any fun x => ys.any fun y => p x y) = true := by
  simp only [List.any_eq_true]
  exact ⟨gd xs i, gd_mem hi, gd ys j, gd_mem hj, h⟩
theorem row_next {p : Nat → Nat → Bool} {i m : Nat} (h : ∀ a, a < i → ∀ b, b < m → p a b = false) (h2 : ∀ b, b < m → p i b = false) : ∀ a, a < i + 1 → ∀ b, b < m → p a b = false := fun a ha b hb => by
  by_cases e : a = i
  · subst e; exact h2 b hb
  · exact h a (by omega) b hb
theorem col_next {p : Nat → Bool} {j : Nat} (h : ∀ b, b < j → p b = false) (h2 : p j = false) : ∀ b, b < j + 1 → p b = false := fun b hb => by
  by_cases e : b = j
  · subst e; exact h2
  · exact h b (by omega)
theorem meet_s {v u : Value} {xs ys : List Rect} (h1 : Rs G L rectT v xs) (h2 : Rs G L rectT u ys) (k : R (.bool (meetB xs ys)) G L) : CallT Tryz.prog 213 #[v, u] G L R := by
  refine CallT.bd h1 fun hb => ?_
  refine CallT.bd h2 fun hb' => ?_
  refine CallT.enter (args := _) Tryz.func213 rfl rfl (by kernel_rfl) rfl ?_
  refine WP.seq ?_
  refine WP.region ?_
  refine RG.pv rfl (PV.mvB (.inr rfl) rfl) ?_
  refine RG.nil ?_
  refine WP.seq ?_
  refine WP.seq ?_
  refine WP.region ?_
  refine RG.pv rfl (PV.move (v := v) rfl rfl) ?_
  refine RG.pv rfl (PV.len (v := v) rfl Tryz.underlying56 rfl (SlF.r h1)) ?_
  refine RG.pv rfl (PV.mvI (.inl rfl) rfl) ?_
  refine RG.nil ?_
  refine WP.block ?_
  refine WP.loop1 [1, 9, 10] (fun i => i ≤ xs.length ∧ ∀ p, p < i → ∀ q, q < ys.length → ovl (gd xs p) (gd ys q) = false) (fun i => [(11, vi i)]) (fun i => L) (fun i => xs.length - i) 0 ⟨by omega, fun p h => by omega⟩ ⟨rfl, trivial⟩ Cv.p ?_
  rintro i τ ⟨hi, hn⟩
  refine WP.seq ?_
  refine WP.region ?_
  refine RG.pv rfl (PV.lss rfl rfl rfl) ?_
  refine RG.nil ?_
  refine WP.seq ?_
  refine WP.cond rfl (fun h3 => ?_) (fun h3 => ?_)
  · have h3 := of_decide_eq_true h3
    refine WP.skip ?_
    refine WP.seq ?_
    refine WP.block ?_
    refine WP.seq ?_
    refine WP.region ?_
    refine RG.pv rfl (PV.idxS (v := v) rfl Is56 rfl (SlF.r h1) rfl rfl (by omega)) ?_
    refine RG.pv rfl (PV.loadE rfl Ag61 rfl rfl (El.r h1 (getG (by omega)))) ?_
    refine RG.ot rfl (OT.alloc rfl Zr61 fun b6 => ?_)
    refine RG.ot rfl (OT.storeW (vs := [vi _, vi _, vi _, vi _]) rfl Sz61 rfl rfl (Cl.c rfl) rfl rfl (OneC.c rfl) ?_)
    refine RG.nil ?_
    refine WP.seq ?_
    refine WP.region ?_
    refine RG.pv rfl (PV.move (v := u) rfl rfl) ?_
    refine RG.pv rfl (PV.len (v := u) rfl Tryz.underlying56 rfl (SlF.r h2)) ?_
    refine RG.pv rfl (PV.mvI (.inl rfl) rfl) ?_
    refine RG.nil ?_
    refine WP.block ?_
    refine WP.loop1 [1, 6, 9, 10, 11, 15, 16] (fun j => j ≤ ys.length ∧ ∀ q, q < j → ovl (gd xs i) (gd ys q) = false) (fun j => [(17, vi j)]) (fun j => blk b6 61 (rectT.enc (gd xs i)) :: L) (fun j => ys.length - j) 0 ⟨by omega, fun q h => by omega⟩ ⟨rfl, trivial⟩ Cv.p ?_
    rintro j τ1 ⟨hj, hm⟩
    refine WP.seq ?_
    refine WP.region ?_
    refine RG.pv rfl (PV.lss rfl rfl rfl) ?_
    refine RG.nil ?_
    refine WP.seq ?_
    refine WP.cond rfl (fun h4 => ?_) (fun h4 => ?_)
    · have h4 := of_decide_eq_true h4
      refine WP.skip ?_
      refine WP.seq ?_
      refine WP.block ?_
      refine WP.seq ?_
      refine WP.region ?_
      refine RG.pv rfl (PV.idxS (v := u) rfl Is56 rfl (SlF.r h2) rfl rfl (by omega)) ?_
      refine RG.pv rfl (PV.loadE rfl Ag61 rfl rfl (El.r h2 (getG (by omega)))) ?_
      refine RG.ot rfl (OT.alloc rfl Zr61 fun b8 => ?_)
      refine RG.ot rfl (OT.storeW (vs := [vi _, vi _, vi _, vi _]) rfl Sz61 rfl rfl (Cl.c rfl) rfl rfl (OneC.c rfl) ?_)
      refine RG.nil ?_
      refine WP.seq ?_
      refine WP.region ?_
      refine RG.pv rfl (PV.loadW rfl Ag61 rfl rfl) ?_
      refine RG.pv rfl (PV.loadW rfl Ag61 rfl rfl) ?_
      refine RG.callF (vs := [_, _]) rfl rfl En220 rfl (ovl_s ?_)
      refine RG.nil ?_
      refine WP.cond rfl (fun h5 => ?_) (fun h5 => ?_)
      · have e : meetB xs ys = true := any2_true (i := i) (j := j) (by omega) (by omega) h5
        rw [e] at k
        refine WP.seq ?_
        refine WP.region ?_
        refine RG.pv rfl (PV.mvB (.inr rfl) rfl) ?_
        refine RG.nil ?_
        refine WP.ret ?_
        exact ⟨_, _, ResV.one rfl rfl, Cv.p, k⟩
      · refine WP.skip ?_
        refine WP.region ?_
        refine RG.pv rfl (PV.add rfl rfl rfl (by omega)) ?_
        refine RG.pv rfl (PV.mvI (.inl rfl) rfl) ?_
        refine RG.nil ?_
        exact ⟨rfl, j + 1, ⟨by omega, col_next hm h5⟩, ⟨rfl, trivial⟩, ⟨rfl, rfl, rfl, rfl, rfl, rfl, rfl, trivial⟩, Cv.p, by omega⟩
    · have h4 := of_decide_eq_false h4
      obtain rfl : j = ys.length := by omega
      refine WP.exit ?_
      refine WP.region ?_
      refine RG.pv rfl (PV.add rfl rfl rfl (by omega)) ?_
      refine RG.pv rfl (PV.mvI (.inl rfl) rfl) ?_
      refine RG.nil ?_
      exact ⟨rfl, i + 1, ⟨by omega, row_next (p := fun a b => ovl (gd xs a) (gd ys b)) hn hm⟩, ⟨rfl, trivial⟩, ⟨rfl, rfl, rfl, trivial⟩, Cv.p, by omega⟩
  · have h3 := of_decide_eq_false h3
    obtain rfl : i = xs.length := by omega
    have e : meetB xs ys = false := any2_false hn
    rw [e] at k
    refine WP.exit ?_
    refine WP.seq ?_
    refine WP.region ?_
    refine RG.pv rfl (PV.mvB (.inr rfl) rfl) ?_
    refine RG.nil ?_
    refine WP.ret ?_
    exact ⟨_, _, ResV.one rfl rfl, Cv.p, k⟩
theorem meetIn_s {v u w : Value} {xs ys zs : List Rect} (h1 : Rs G L rectT v xs) (h2 : Rs G L rectT u ys) (h3 : Rs G L rectT w zs) (k : R (.bool (meetIn xs ys zs)) G L) : CallT Tryz.prog 190 #[v, u, w] G L R := by
  refine CallT.bd h1 fun hb => ?_
  refine CallT.bd h2 fun hb' => ?_
  refine CallT.enter (args := _) Tryz.func190 rfl rfl (by kernel_rfl) rfl ?_
  refine WP.seq ?_
  refine WP.region ?_
  refine RG.pv rfl (PV.mvB (.inr rfl) rfl) ?_
  refine RG.nil ?_
  refine WP.seq ?_
  refine WP.seq ?_
  refine WP.region ?_
  refine RG.pv rfl (PV.move (v := v) rfl rfl) ?_
  refine RG.pv rfl (PV.len (v := v) rfl Tryz.underlying56 rfl (SlF.r h1)) ?_
  refine RG.pv rfl (PV.mvI (.inl rfl) rfl) ?_
  refine RG.nil ?_
  refine WP.block ?_
  refine WP.loop1 [1, 2, 12, 13] (fun i => i ≤ xs.length ∧ ∀ p, p < i → ∀ q, q < ys.length → (validRect (cmn (gd xs p) (gd ys q)) && meetB [cmn (gd xs p) (gd ys q)] zs) = false) (fun i => [(14, vi i)]) (fun i => L) (fun i => xs.length - i) 0 ⟨by omega, fun p h => by omega⟩ ⟨rfl, trivial⟩ Cv.p ?_
  rintro i τ ⟨hi, hn⟩
  refine WP.seq ?_
  refine WP.region ?_
  refine RG.pv rfl (PV.lss rfl rfl rfl) ?_
  refine RG.nil ?_
  refine WP.seq ?_
  refine WP.cond rfl (fun h4 => ?_) (fun h4 => ?_)
  · have h4 := of_decide_eq_true h4
    refine WP.skip ?_
    refine WP.seq ?_
    refine WP.block ?_
    refine WP.seq ?_
    refine WP.region ?_
    refine RG.pv rfl (PV.idxS (v := v) rfl Is56 rfl (SlF.r h1) rfl rfl (by omega)) ?_
    refine RG.pv rfl (PV.loadE rfl Ag61 rfl rfl (El.r h1 (getG (by omega)))) ?_
    refine RG.ot rfl (OT.alloc rfl Zr61 fun b8 => ?_)
    refine RG.ot rfl (OT.storeW (vs := [vi _, vi _, vi _, vi _]) rfl Sz61 rfl rfl (Cl.c rfl) rfl rfl (OneC.c rfl) ?_)
    refine RG.nil ?_
    refine WP.seq ?_
    refine WP.region ?_
    refine RG.pv rfl (PV.move (v := u) rfl rfl) ?_
    refine RG.pv rfl (PV.len (v := u) rfl Tryz.underlying56 rfl (SlF.r h2)) ?_
    refine RG.pv rfl (PV.mvI (.inl rfl) rfl) ?_
    refine RG.nil ?_
    refine WP.block ?_
    refine WP.loop1 [1, 2, 8, 12, 13, 14, 18, 19] (fun j => j ≤ ys.length ∧ ∀ q, q < j → (validRect (cmn (gd xs i) (gd ys q)) && meetB [cmn (gd xs i) (gd ys q)] zs) = false) (fun j => [(20, vi j)]) (fun j => blk b8 61 (rectT.enc (gd xs i)) :: L) (fun j => ys.length - j) 0 ⟨by omega, fun q h => by omega⟩ ⟨rfl, trivial⟩ Cv.p ?_
    rintro j τ1 ⟨hj, hm⟩
    refine WP.seq ?_
    refine WP.region ?_
    refine RG.pv rfl (PV.lss rfl rfl rfl) ?_
    refine RG.nil ?_
    refine WP.seq ?_
    refine WP.cond rfl (fun h5 => ?_) (fun h5 => ?_)
    · have h5 := of_decide_eq_true h5
      refine WP.skip ?_
      refine WP.seq ?_
      refine WP.block ?_
      refine WP.seq ?_
      refine WP.region ?_
      refine RG.pv rfl (PV.idxS (v := u) rfl Is56 rfl (SlF.r h2) rfl rfl (by omega)) ?_
      refine RG.pv rfl (PV.loadE rfl Ag61 rfl rfl (El.r h2 (getG (by omega)))) ?_
      refine RG.ot rfl (OT.alloc rfl Zr61 fun b10 => ?_)
      refine RG.ot rfl (OT.storeW (vs := [vi _, vi _, vi _, vi _]) rfl Sz61 rfl rfl (Cl.c rfl) rfl rfl (OneC.c rfl) ?_)
      refine RG.nil ?_
      refine WP.seq ?_
      refine WP.region ?_
      refine RG.pv rfl (PV.loadW rfl Ag61 rfl rfl) ?_
      refine RG.pv rfl (PV.loadW rfl Ag61 rfl rfl) ?_
      refine RG.callF (vs := [_, _]) rfl rfl En180 rfl (common_s ?_)
      refine RG.ot rfl (OT.alloc rfl Zr61 fun b11 => ?_)
      refine RG.ot rfl (OT.storeW (vs := [vi _, vi _, vi _, vi _]) rfl Sz61 rfl rfl (Cl.c rfl) rfl rfl (OneC.c rfl) ?_)
      refine RG.nil ?_
      refine WP.seq ?_
      refine WP.region ?_
      refine RG.pv rfl (PV.loadW rfl Ag61 rfl rfl) ?_
      refine RG.callF (vs := [_]) rfl rfl En181 rfl (validRect_s ?_)
      refine RG.pv rfl (PV.mvB (.inl rfl) rfl) ?_
      refine RG.spl (t := 29) rfl (fun h6 => ?_) (fun h6 => ?_)
      · refine RG.take rfl rfl rfl h6 ?_
        refine RG.pv rfl (PV.loadW rfl Ag61 rfl rfl) ?_
        refine RG.take rfl rfl rfl h6 ?_
        refine RG.ot rfl (OT.bslice (F := rectT) (els := [_]) rfl El56 rfl (by decide) rfl (by decide) ⟨rfl, (Cl.c rfl), trivial⟩ fun v31 => ?_)
        refine RG.take rfl rfl rfl h6 ?_
        refine RG.pv rfl (PV.move (v := w) rfl rfl) ?_
        refine RG.take rfl rfl rfl h6 ?_
        refine RG.callF (vs := [v31, w]) rfl rfl En213 rfl (meet_s Rs.o (Rs.up h3) ?_)
        refine RG.pv rfl (PV.pickT rfl rfl h6 rfl) ?_
        refine RG.nil ?_
        refine WP.cond rfl (fun h7 => ?_) (fun h7 => ?_)
        · have e : meetIn xs ys zs = true := any2_true (p := fun x y => validRect (cmn x y) && meetB [cmn x y] zs) (i := i) (j := j) (by omega) (by omega) (by rw [h6]; exact h7)
          rw [e] at k
          refine WP.seq ?_
          refine WP.region ?_
          refine RG.pv rfl (PV.mvB (.inr rfl) rfl) ?_
          refine RG.nil ?_
          refine WP.ret ?_
          exact ⟨_, _, ResV.one rfl rfl, Cv.p, k⟩
        · refine WP.skip ?_
          refine WP.region ?_
          refine RG.pv rfl (PV.add rfl rfl rfl (by omega)) ?_
          refine RG.pv rfl (PV.mvI (.inl rfl) rfl) ?_
          refine RG.nil ?_
          exact ⟨rfl, j + 1, ⟨by omega, col_next hm (by rw [h6]; exact h7)⟩, ⟨rfl, trivial⟩, ⟨rfl, rfl, rfl, rfl, rfl, rfl, rfl, rfl, trivial⟩, Cv.p, by omega⟩
      · refine RG.skip rfl rfl rfl (gne h6) ?_
        refine RG.skip rfl rfl rfl (gne h6) ?_
        refine RG.skip rfl rfl rfl (gne h6) ?_
        refine RG.skip rfl rfl rfl (gne h6) ?_
        refine RG.pv rfl (PV.pickE rfl rfl h6 rfl) ?_
        refine RG.nil ?_
        refine WP.cond rfl (fun h7 => ?_) (fun h7 => ?_)
        · cases h7
        · refine WP.skip ?_
          refine WP.region ?_
          refine RG.pv rfl (PV.add rfl rfl rfl (by omega)) ?_
          refine RG.pv rfl (PV.mvI (.inl rfl) rfl) ?_
          refine RG.nil ?_
          exact ⟨rfl, j + 1, ⟨by omega, col_next hm (by rw [h6]; rfl)⟩, ⟨rfl, trivial⟩, ⟨rfl, rfl, rfl, rfl, rfl, rfl, rfl, rfl, trivial⟩, Cv.p, by omega⟩
    · have h5 := of_decide_eq_false h5
      obtain rfl : j = ys.length := by omega
      refine WP.exit ?_
      refine WP.region ?_
      refine RG.pv rfl (PV.add rfl rfl rfl (by omega)) ?_
      refine RG.pv rfl (PV.mvI (.inl rfl) rfl) ?_
      refine RG.nil ?_
      exact ⟨rfl, i + 1, ⟨by omega, row_next (p := fun a b => validRect (cmn (gd xs a) (gd ys b)) && meetB [cmn (gd xs a) (gd ys b)] zs) hn hm⟩, ⟨rfl, trivial⟩, ⟨rfl, rfl, rfl, rfl, trivial⟩, Cv.p, by omega⟩
  · have h4 := of_decide_eq_false h4
    obtain rfl : i = xs.length := by omega
    have e : meetIn xs ys zs = false := any2_false (p := fun x y => validRect (cmn x y) && meetB [cmn x y] zs) hn
    rw [e] at k
    refine WP.exit ?_
    refine WP.seq ?_
    refine WP.region ?_
    refine RG.pv rfl (PV.mvB (.inr rfl) rfl) ?_
    refine RG.nil ?_
    refine WP.ret ?_
    exact ⟨_, _, ResV.one rfl rfl, Cv.p, k⟩
end Go.Proofs.YtmomfgfmnpblpaaGreat
namespace Go.Proofs.YtmomfgfmnpblpaaGreat
set_option linter.unusedVariables false
set_option linter.unusedSimpArgs false
open Go
set_option maxRecDepth 20000
set_option linter.unusedSimpArgs false
variable {G : Gh} {L : List Ch} {R : Value → Gh → List Ch → Prop}
theorem at_eq {x y : Int} (hx : -40 ≤ x) (hy : -40 ≤ y) : ((y + 40) * 80 + x + 40).toNat = (y + 40).toNat * 80 + (x + 40).toNat := by omega
theorem fill_s {v : Value} {D : List Bool} {r : Rect} (hD : D.length = 6400) (hr : validRect r = true) (k : ∀ D' : List Bool, D'.length = 6400 → (∀ y x, y < 80 → x < 80 → gb D' y x = (gb D y x || inR r y x)) → R v G (osl 4 boolT v D' :: L)) :
    CallT Tryz.prog 150 #[v, vrect r] G (osl 4 boolT v D :: L) R := by
  have hv := validR_iff.1 hr
  refine CallT.enter (args := _) Tryz.func150 rfl rfl (by kernel_rfl) rfl ?_
  refine WP.seq ?_
  refine WP.region ?_
  refine RG.ot rfl (OT.box (cs := rectT.enc r) rfl rfl rfl fun b3 => ?_)
  refine RG.pv rfl (PV.asg rfl rfl) ?_
  refine RG.nil ?_
  refine WP.seq ?_
  refine WP.seq ?_
  refine WP.region ?_
  refine RG.pv rfl (PV.field rfl Fo61_1 rfl) ?_
  refine RG.pv rfl (PV.load1 rfl Sc2 rfl (Rd.blk rfl)) ?_
  refine RG.pv rfl (PV.mvI (.inr rfl) rfl) ?_
  refine RG.nil ?_
  refine WP.block ?_
  refine WP.loop2 [0, 3] (fun (y : Int) (E : List Bool) => r.y0 ≤ y ∧ y ≤ r.y1 ∧ E.length = 6400 ∧ ∀ v u : Nat, v < 80 → u < 80 → (gb E v u = true ↔ gb D v u = true ∨ (inR r v u = true ∧ (v : Int) - 40 < y))) (fun (y : Int) (E : List Bool) => [(5, vi y)]) (fun (y : Int) (E : List Bool) => osl 4 boolT v E :: blk b3 61 (rectT.enc r) :: L) (fun (y : Int) (E : List Bool) => (r.y1 - y).toNat) r.y0 D ⟨by omega, by omega, hD, fun v u hv hu => ⟨.inl, fun h => h.resolve_right fun ⟨h1, h2⟩ => by rw [inR_iff] at h1; omega⟩⟩ ⟨rfl, trivial⟩ Cv.p ?_
  rintro y E τ ⟨hy0, hy1, hE, hg⟩
  refine WP.seq ?_
  refine WP.seq ?_
  refine WP.region ?_
  refine RG.pv rfl (PV.mvI (.inl rfl) rfl) ?_
  refine RG.pv rfl (PV.field rfl Fo61_3 rfl) ?_
  refine RG.pv rfl (PV.load1 rfl Sc2 rfl (Rd.blk rfl)) ?_
  refine RG.pv rfl (PV.lss rfl rfl rfl) ?_
  refine RG.nil ?_
  refine WP.cond rfl (fun h2 => ?_) (fun h2 => ?_)
  · have h2 := of_decide_eq_true h2
    refine WP.skip ?_
    refine WP.seq ?_
    refine WP.block ?_
    refine WP.seq ?_
    refine WP.region ?_
    refine RG.pv rfl (PV.field rfl Fo61_0 rfl) ?_
    refine RG.pv rfl (PV.load1 rfl Sc2 rfl (Rd.blk rfl)) ?_
    refine RG.pv rfl (PV.mvI (.inr rfl) rfl) ?_
    refine RG.nil ?_
    refine WP.block ?_
    refine WP.loop2 [0, 3, 5] (fun (x : Int) (F : List Bool) => r.x0 ≤ x ∧ x ≤ r.x1 ∧ F.length = 6400 ∧ ∀ v u : Nat, v < 80 → u < 80 → (gb F v u = true ↔ gb E v u = true ∨ ((v : Int) - 40 = y ∧ r.x0 ≤ (u : Int) - 40 ∧ (u : Int) - 40 < x))) (fun (x : Int) (F : List Bool) => [(6, vi x)]) (fun (x : Int) (F : List Bool) => osl 4 boolT v F :: blk b3 61 (rectT.enc r) :: L) (fun (x : Int) (F : List Bool) => (r.x1 - x).toNat) r.x0 E ⟨by omega, by omega, hE, fun v u hv hu => ⟨.inl, fun h => h.resolve_right fun ⟨h1, h2, h3⟩ => by omega⟩⟩ ⟨rfl, trivial⟩ Cv.p ?_
    rintro x F τ1 ⟨hx0, hx1, hF, hf⟩
    refine WP.seq ?_
    refine WP.seq ?_
    refine WP.region ?_
    refine RG.pv rfl (PV.mvI (.inl rfl) rfl) ?_
    refine RG.pv rfl (PV.field rfl Fo61_2 rfl) ?_
    refine RG.pv rfl (PV.load1 rfl Sc2 rfl (Rd.blk rfl)) ?_
    refine RG.pv rfl (PV.lss rfl rfl rfl) ?_
    refine RG.nil ?_
    refine WP.cond rfl (fun h3 => ?_) (fun h3 => ?_)
    · have h3 := of_decide_eq_true h3
      have hat := at_eq (x := x) (y := y) (by omega) (by omega)
      refine WP.skip ?_
      refine WP.seq ?_
      refine WP.block ?_
      refine WP.region ?_
      refine RG.pv rfl (PV.move (v := v) rfl rfl) ?_
      refine RG.pv rfl (PV.mvI (.inl rfl) rfl) ?_
      refine RG.pv rfl (PV.mvI (.inl rfl) rfl) ?_
      refine RG.callF (vs := [_, _]) rfl rfl En107 rfl (l17At_s (by omega) (by omega) ?_)
      refine RG.pv rfl (PV.idxS (j := ((y + 40) * 80 + x + 40).toNat) (v := v) rfl Is124 rfl SlF.o rfl (by omega) (by omega)) ?_
      refine RG.ot rfl (OT.storeE (F := boolT) rfl Sz4 rfl rfl rfl (Cl.c rfl) (OneC.c rfl) (by omega) ?_)
      refine RG.nil ?_
      refine WP.region ?_
      refine RG.pv rfl (PV.mvI (.inl rfl) rfl) ?_
      refine RG.pv rfl (PV.add rfl rfl rfl (by omega)) ?_
      refine RG.pv rfl (PV.mvI (.inr rfl) rfl) ?_
      refine RG.nil ?_
      refine ⟨rfl, x + 1, (F.set ((y + 40) * 80 + x + 40).toNat true), ⟨by omega, by omega, by simpa using hF, fun v u hv hu => ?_⟩, ⟨rfl, trivial⟩, ⟨rfl, rfl, rfl, trivial⟩, Cv.p, by omega⟩
      rw [hat, gb_set' hF (by omega) (by omega) hu]
      by_cases c : v = (y + 40).toNat ∧ u = (x + 40).toNat
      · rw [if_pos c]; simp only [true_iff]; right; omega
      · rw [if_neg c, hf v u hv hu]
        constructor
        · rintro (h | h)
          · exact .inl h
          · right; omega
        · rintro (h | h)
          · exact .inl h
          · right; omega
    · have h3 := of_decide_eq_false h3
      refine WP.exit ?_
      refine WP.region ?_
      refine RG.pv rfl (PV.mvI (.inl rfl) rfl) ?_
      refine RG.pv rfl (PV.add rfl rfl rfl (by omega)) ?_
      refine RG.pv rfl (PV.mvI (.inr rfl) rfl) ?_
      refine RG.nil ?_
      refine ⟨rfl, y + 1, F, ⟨by omega, by omega, hF, fun v u hv hu => ?_⟩, ⟨rfl, trivial⟩, ⟨rfl, rfl, trivial⟩, Cv.p, by omega⟩
      rw [hf v u hv hu, hg v u hv hu, inR_iff]
      constructor
      · rintro ((h | h) | h)
        · exact .inl h
        · right; omega
        · right; omega
      · rintro (h | h)
        · exact .inl (.inl h)
        · by_cases c : (v : Int) - 40 = y
          · right; omega
          · left; right; omega
  · have h2 := of_decide_eq_false h2
    have hk : ∀ v u, v < 80 → u < 80 → gb E v u = (gb D v u || inR r v u) := fun v u hv hu => by
      rw [Bool.eq_iff_iff, hg v u hv hu, Bool.or_eq_true]
      constructor
      · rintro (h | h)
        · exact .inl h
        · exact .inr h.1
      · rintro (h | h)
        · exact .inl h
        · right; refine ⟨h, ?_⟩; rw [inR_iff] at h; omega
    refine WP.exit ?_
    refine WP.seq ?_
    refine WP.region ?_
    refine RG.pv rfl (PV.move (v := v) rfl rfl) ?_
    refine RG.pv rfl (PV.asg (v := v) rfl rfl) ?_
    refine RG.nil ?_
    refine WP.ret ?_
    exact ⟨_, _, ResV.one rfl rfl, Cv.p, k E hE hk⟩
theorem drawBoxes_s {b : Nat} {m n : Int} {cv : Value} {bs : List UInt8} (hcode : SL G byteT cv bs) (hm : 0 ≤ m ∧ m ≤ 100) (hn : 1 ≤ n ∧ n ≤ 30) (k : ∀ v xs, isReg xs = true → R v G (osl 61 rectT v xs :: src b cv :: L)) : CallT Tryz.prog 105 #[.pointer (some ⟨b, 0, none⟩), vi m, vi n] G (src b cv :: L) R := by
  refine CallT.enter (args := _) Tryz.func105 rfl rfl (by kernel_rfl) rfl ?_
  refine WP.seq ?_
  refine WP.region ?_
  refine RG.pv rfl (PV.asg rfl rfl) ?_
  refine RG.nil ?_
  refine WP.seq ?_
  refine WP.region ?_
  refine RG.ot rfl (OT.make (m := 6400) (F := boolT) (a0 := false) rfl El124 rfl (by decide) rfl rfl (by omega) (by omega) fun v10 => ?_)
  refine RG.pv rfl (PV.asg (v := v10) rfl rfl) ?_
  refine RG.nil ?_
  refine WP.seq ?_
  refine WP.seq ?_
  refine WP.region ?_
  refine RG.pv rfl (PV.move rfl rfl) ?_
  refine RG.pv rfl (PV.mvI (.inl rfl) rfl) ?_
  refine RG.pv rfl (PV.add rfl rfl rfl (by omega)) ?_
  refine RG.callF (vs := [_, _]) rfl rfl En106 rfl (CallT.exC (src b cv) (next_s hcode (by omega) (fun w14 hw14 => ?_)))
  refine RG.pv rfl (PV.mvI (.inr rfl) rfl) ?_
  refine RG.nil ?_
  refine WP.block ?_
  refine WP.loop3 [0, 2] (fun (j : Int) (E : List Bool) (q : Value) => j ≤ 200 ∧ E.length = 6400) (fun (j : Int) (E : List Bool) (q : Value) => [(8, vi j), (7, q)]) (fun (j : Int) (E : List Bool) (q : Value) => osl 4 boolT q E :: src b cv :: L) (fun (j : Int) (E : List Bool) (q : Value) => j.toNat) w14 (List.replicate 6400 false) v10 ⟨by omega, by simp⟩ ⟨rfl, rfl, trivial⟩ Cv.p ?_
  rintro j E q τ ⟨hj, hE⟩
  refine WP.seq ?_
  refine WP.seq ?_
  refine WP.region ?_
  refine RG.pv rfl (PV.mvI (.inl rfl) rfl) ?_
  refine RG.pv rfl (PV.gtr rfl rfl rfl) ?_
  refine RG.nil ?_
  refine WP.cond rfl (fun h2 => ?_) (fun h2 => ?_)
  · have h2 := of_decide_eq_true h2
    refine WP.skip ?_
    refine WP.seq ?_
    refine WP.block ?_
    refine WP.seq ?_
    refine WP.region ?_
    refine RG.pv rfl (PV.move rfl rfl) ?_
    refine RG.callF (vs := [_, _]) rfl rfl En106 rfl (CallT.exC (src b cv) (next_s hcode (by omega) (fun w20 hw20 => ?_)))
    refine RG.pv rfl (PV.sub rfl rfl rfl (by omega)) ?_
    refine RG.pv rfl (PV.move rfl rfl) ?_
    refine RG.callF (vs := [_, _]) rfl rfl En106 rfl (CallT.exC (src b cv) (next_s hcode (by omega) (fun w23 hw23 => ?_)))
    refine RG.pv rfl (PV.sub rfl rfl rfl (by omega)) ?_
    refine RG.pv rfl (PV.build (vs := [(0, [vi _]), (1, [vi _])]) (out := [_, _, _, _]) rfl Zr61 Pl61 ⟨rfl, (Cl.c rfl), ⟨rfl, (Cl.c rfl), trivial⟩⟩ rfl) ?_
    refine RG.ot rfl (OT.alloc rfl Zr61 fun b9 => ?_)
    refine RG.ot rfl (OT.storeW (vs := [vi _, vi _, vi _, vi _]) rfl Sz61 rfl rfl (Cl.c rfl) rfl rfl (OneC.c rfl) ?_)
    refine RG.nil ?_
    refine WP.cut1 [0, 2, 7, 8, 9] (fun (x1 : Int) => w20 - 7 < x1 ∧ x1 ≤ w20 - 7 + n) (fun (x1 : Int) => []) (fun (x1 : Int) => blk b9 61 [vi (w20 - 7), vi (w23 - 7), vi x1, vi 0] :: osl 4 boolT q E :: src b cv :: L) ?_ ?_
    refine WP.regionHD [.b b9] (.q 0 (.q 3 (.q 4 (.b 1 (.q 2 (.l 5 (.q 6 (.q 7 (.l 8 Sch.nil))))) 5 (.l 1 (.q 2 (.q 6 (.q 7 (.l 8 Sch.nil))))))))) (by kernel_rfl) (by kernel_rfl) (by kernel_rfl) rfl ?_
    refine RH.pv rfl (fun _ _ _ _ h => h) (Gh.le_refl _) PickC.pick rfl (PV.field rfl Fo61_0 rfl) ?_
    refine RH.pv rfl (fun _ _ _ _ h => h) (Gh.le_refl _) PickC.pick rfl (PV.move rfl rfl) ?_
    refine RH.pv rfl (fun _ _ _ _ h => h) (Gh.le_refl _) PickC.pick rfl (PV.mvI (.inl rfl) rfl) ?_
    · refine RH.ot2 rfl rfl rfl rfl  (OT.pv (PV.load1 rfl Sc2 rfl (Rd.blk rfl)) ⟨Gh.le_refl _, PickC.pick, ?_⟩) (OT.callF (vs := [_, _]) rfl En106 rfl (CallT.exC (src b cv) (next_s hcode (by omega) (fun w31 hw31 => ⟨Gh.le_refl _, PickC.pick, ?_⟩))))
      · refine RH.pv rfl (fun _ _ _ _ h => h) (Gh.le_refl _) PickC.pick rfl (PV.add rfl rfl rfl (by omega)) ?_
        refine RH.ot rfl rfl (OT.callF (vs := [_, _]) rfl En106 rfl (CallT.exC (src b cv) (next_s hcode (by omega) (fun w31 hw31 => ⟨Gh.le_refl _, PickC.pick, ?_⟩))))
        refine RH.pv rfl (fun _ _ _ _ h => h) (Gh.le_refl _) PickC.pick rfl (PV.add rfl rfl rfl (by omega)) ?_
        refine RH.pv rfl (fun _ _ _ _ h => h) (Gh.le_refl _) PickC.pick rfl (PV.field rfl Fo61_2 rfl) ?_
        refine RH.ot rfl rfl (OT.storeB (vs := [vi _]) (cs' := [_, _, _, _]) rfl Sz2 rfl rfl (Cl.c rfl) rfl (OneC.c rfl) rfl rfl ⟨Gh.le_refl _, PickC.pick, ?_⟩)
        refine RH.nil ?_
        exact ⟨rfl, (w20 - 7 + 1 + w31), ⟨by omega, by omega⟩, trivial, ⟨rfl, rfl, rfl, rfl, rfl, trivial⟩, Cv.p⟩
      · refine RH.ot rfl rfl (OT.pv (PV.load1 rfl Sc2 rfl (Rd.blk rfl)) ⟨Gh.le_refl _, PickC.pick, ?_⟩)
        refine RH.pv rfl (fun _ _ _ _ h => h) (Gh.le_refl _) PickC.pick rfl (PV.add rfl rfl rfl (by omega)) ?_
        refine RH.pv rfl (fun _ _ _ _ h => h) (Gh.le_refl _) PickC.pick rfl (PV.add rfl rfl rfl (by omega)) ?_
        refine RH.pv rfl (fun _ _ _ _ h => h) (Gh.le_refl _) PickC.pick rfl (PV.field rfl Fo61_2 rfl) ?_
        refine RH.ot rfl rfl (OT.storeB (vs := [vi _]) (cs' := [_, _, _, _]) rfl Sz2 rfl rfl (Cl.c rfl) rfl (OneC.c rfl) rfl rfl ⟨Gh.le_refl _, PickC.pick, ?_⟩)
        refine RH.nil ?_
        exact ⟨rfl, (w20 - 7 + 1 + w31), ⟨by omega, by omega⟩, trivial, ⟨rfl, rfl, rfl, rfl, rfl, trivial⟩, Cv.p⟩
    rintro x1 τ2 hx1
    refine WP.cut1 [0, 2, 7, 8, 9] (fun (y1 : Int) => w23 - 7 < y1 ∧ y1 ≤ w23 - 7 + n) (fun (y1 : Int) => []) (fun (y1 : Int) => blk b9 61 (rectT.enc ⟨w20 - 7, w23 - 7, x1, y1⟩) :: osl 4 boolT q E :: src b cv :: L) ?_ ?_
    refine WP.regionHD [.b b9] (.q 0 (.q 3 (.q 4 (.b 1 (.q 2 (.l 5 (.q 6 (.q 7 (.l 8 Sch.nil))))) 5 (.l 1 (.q 2 (.q 6 (.q 7 (.l 8 Sch.nil))))))))) (by kernel_rfl) (by kernel_rfl) (by kernel_rfl) rfl ?_
    refine RH.pv rfl (fun _ _ _ _ h => h) (Gh.le_refl _) PickC.pick rfl (PV.field rfl Fo61_1 rfl) ?_
    refine RH.pv rfl (fun _ _ _ _ h => h) (Gh.le_refl _) PickC.pick rfl (PV.move rfl rfl) ?_
    refine RH.pv rfl (fun _ _ _ _ h => h) (Gh.le_refl _) PickC.pick rfl (PV.mvI (.inl rfl) rfl) ?_
    · refine RH.ot2 rfl rfl rfl rfl  (OT.pv (PV.load1 rfl Sc2 rfl (Rd.blk rfl)) ⟨Gh.le_refl _, PickC.pick, ?_⟩) (OT.callF (vs := [_, _]) rfl En106 rfl (CallT.exC (src b cv) (next_s hcode (by omega) (fun w39 hw39 => ⟨Gh.le_refl _, PickC.pick, ?_⟩))))
      · refine RH.pv rfl (fun _ _ _ _ h => h) (Gh.le_refl _) PickC.pick rfl (PV.add rfl rfl rfl (by omega)) ?_
        refine RH.ot rfl rfl (OT.callF (vs := [_, _]) rfl En106 rfl (CallT.exC (src b cv) (next_s hcode (by omega) (fun w39 hw39 => ⟨Gh.le_refl _, PickC.pick, ?_⟩))))
        refine RH.pv rfl (fun _ _ _ _ h => h) (Gh.le_refl _) PickC.pick rfl (PV.add rfl rfl rfl (by omega)) ?_
        refine RH.pv rfl (fun _ _ _ _ h => h) (Gh.le_refl _) PickC.pick rfl (PV.field rfl Fo61_3 rfl) ?_
        refine RH.ot rfl rfl (OT.storeB (vs := [vi _]) (cs' := [_, _, _, _]) rfl Sz2 rfl rfl (Cl.c rfl) rfl (OneC.c rfl) rfl rfl ⟨Gh.le_refl _, PickC.pick, ?_⟩)
        refine RH.nil ?_
        exact ⟨rfl, (w23 - 7 + 1 + w39), ⟨by omega, by omega⟩, trivial, ⟨rfl, rfl, rfl, rfl, rfl, trivial⟩, Cv.p⟩
      · refine RH.ot rfl rfl (OT.pv (PV.load1 rfl Sc2 rfl (Rd.blk rfl)) ⟨Gh.le_refl _, PickC.pick, ?_⟩)
        refine RH.pv rfl (fun _ _ _ _ h => h) (Gh.le_refl _) PickC.pick rfl (PV.add rfl rfl rfl (by omega)) ?_
        refine RH.pv rfl (fun _ _ _ _ h => h) (Gh.le_refl _) PickC.pick rfl (PV.add rfl rfl rfl (by omega)) ?_
        refine RH.pv rfl (fun _ _ _ _ h => h) (Gh.le_refl _) PickC.pick rfl (PV.field rfl Fo61_3 rfl) ?_
        refine RH.ot rfl rfl (OT.storeB (vs := [vi _]) (cs' := [_, _, _, _]) rfl Sz2 rfl rfl (Cl.c rfl) rfl (OneC.c rfl) rfl rfl ⟨Gh.le_refl _, PickC.pick, ?_⟩)
        refine RH.nil ?_
        exact ⟨rfl, (w23 - 7 + 1 + w39), ⟨by omega, by omega⟩, trivial, ⟨rfl, rfl, rfl, rfl, rfl, trivial⟩, Cv.p⟩
    rintro y1 τ3 hy1
    refine WP.region ?_
    refine RG.pv rfl (PV.move (v := q) rfl rfl) ?_
    refine RG.pv rfl (PV.loadW rfl Ag61 rfl rfl) ?_
    refine RG.callF (vs := [q, _]) rfl rfl En150 rfl (CallT.exS q (fill_s hE (validR_iff.2 (by simp only; omega)) (fun D' hD' hg' => ?_)))
    refine RG.pv rfl (PV.asg rfl rfl) ?_
    refine RG.nil ?_
    refine WP.region ?_
    refine RG.pv rfl (PV.mvI (.inl rfl) rfl) ?_
    refine RG.pv rfl (PV.sub rfl rfl rfl (by omega)) ?_
    refine RG.pv rfl (PV.mvI (.inr rfl) rfl) ?_
    refine RG.nil ?_
    exact ⟨rfl, j - 1, D', q, ⟨by omega, hD'⟩, ⟨rfl, rfl, trivial⟩, ⟨rfl, rfl, trivial⟩, Cv.p, by omega⟩
  · refine WP.exit ?_
    refine WP.seq ?_
    refine WP.region ?_
    refine RG.pv rfl (PV.move (v := q) rfl rfl) ?_
    refine RG.callF (vs := [q]) rfl rfl En108 rfl (l03Canon_s Rs.o hE (fun v46 => ?_))
    refine RG.pv rfl (PV.asg (v := v46) rfl rfl) ?_
    refine RG.nil ?_
    refine WP.ret ?_
    exact ⟨_, _, ResV.one rfl rfl, Cv.p, k v46 _ (isReg_canon hE)⟩
/-- a slice of a bag, replaced -/
theorem Cv.bagSet {α : Type} {e : TypeId} {F : FT α} {xs : List (Sl α)} {v : Value} {ys : List α} {L : List Ch} (i : Nat) (hi : i < xs.length) : Cv (osl e F v ys :: bagS e F xs :: L) (bagS e F (xs.set i ⟨v, ys⟩) :: L) := by
  have h := Cv.bagPut (B := xs.map (ownS e F)) (L := L) (c := osl e F v ys) i (by simpa using hi)
  have e1 : (xs.map (ownS e F)).set i (osl e F v ys) = (xs.set i ⟨v, ys⟩).map (ownS e F) := by rw [List.map_set]; rfl
  rw [e1] at h; exact h
theorem Rs.memB {α : Type} {G : Gh} {e : TypeId} {F : FT α} {C : Ch} {L : List Ch} {xs : List (Sl α)} {s : Sl α} (h : s ∈ xs) : Rs G (C :: bagS e F xs :: L) F s.v s.xs := by
  obtain ⟨i, hi, rfl⟩ := List.getElem_of_mem h
  have := Rs.inBag (G := G) (L := C :: bagS e F xs :: L) (L' := C :: L) (e := e) (F := F) (xs := xs) i hi
  rwa [gd_eq hi] at this
theorem big_s {cv : Value} {bs : List UInt8} (hcode : SL G byteT cv bs) (k : R (.bool (decide (4096 < bs.length))) G L) : CallT Tryz.prog 22 #[cv] G L R := by
  have e : decide (4096 < bs.length) = decide ((4096 : Int) < (bs.length : Int)) := by rw [Bool.eq_iff_iff]; simp; omega
  rw [e] at k
  refine CallT.enter (args := _) Tryz.func22 rfl rfl (by kernel_rfl) rfl ?_
  refine WP.seq ?_
  refine WP.region ?_
  refine RG.pv rfl (PV.mvB (.inr rfl) rfl) ?_
  refine RG.nil ?_
  refine WP.seq ?_
  refine WP.region ?_
  refine RG.pv rfl (PV.move (v := cv) rfl rfl) ?_
  refine RG.pv rfl (PV.len (v := cv) rfl Tryz.underlying40 rfl (SlF.r (Rs.g (L := []) hcode))) ?_
  refine RG.pv rfl (PV.gtr rfl rfl rfl) ?_
  refine RG.pv rfl (PV.mvB (.inr rfl) rfl) ?_
  refine RG.nil ?_
  refine WP.ret ?_
  exact ⟨_, _, ResV.one rfl rfl, Cv.p, k⟩
end Go.Proofs.YtmomfgfmnpblpaaGreat
namespace Go.Proofs.YtmomfgfmnpblpaaGreat
set_option linter.unusedVariables false
set_option linter.unusedSimpArgs false
/-- at most this far out -/
def RIn (b : Int) (r : Rect) : Prop := -b ≤ r.x0 ∧ r.x0 < r.x1 ∧ r.x1 ≤ b ∧ -b ≤ r.y0 ∧ r.y0 < r.y1 ∧ r.y1 ≤ b
end Go.Proofs.YtmomfgfmnpblpaaGreat
namespace Go.Proofs.YtmomfgfmnpblpaaGreat
set_option linter.unusedVariables false
set_option linter.unusedSimpArgs false
open Go
set_option maxRecDepth 20000
set_option linter.unusedSimpArgs false
variable {G : Gh} {L : List Ch} {R : Value → Gh → List Ch → Prop}
theorem RIn_valid {r : Rect} : validRect r = true ↔ RIn 40 r := by simp [validRect, RIn]; omega
theorem RIn_all {xs : List Rect} (h : isReg xs = true) : ∀ r ∈ xs, RIn 40 r := by
  have := isReg_valid h
  simp only [validRs, Bool.and_eq_true, List.all_eq_true] at this
  exact fun r hr => RIn_valid.1 (this.2 r hr)
end Go.Proofs.YtmomfgfmnpblpaaGreat
namespace Go.Proofs.YtmomfgfmnpblpaaGreat
set_option linter.unusedVariables false
set_option linter.unusedSimpArgs false
open Go
set_option maxRecDepth 20000
set_option linter.unusedSimpArgs false
variable {G : Gh} {L : List Ch} {R : Value → Gh → List Ch → Prop}
theorem inJ_vals {J : Nat → Nat → Bool} {i k : Nat} (hk : k ≤ i) : Rt (inJ J i (rootsJ J i) k) := by
  have := (rt_roots J i).inJ (J := J) k (by rw [rootsJ_len]; exact hk)
  rwa [rootsJ_len] at this
theorem inJ_le {J : Nat → Nat → Bool} {i k j : Nat} (hk : k ≤ i) (hj : j ≤ i) : 0 ≤ gd (inJ J i (rootsJ J i) k) j ∧ gd (inJ J i (rootsJ J i) k) j ≤ j := by
  have := inJ_vals (J := J) hk j (by rw [inJ_len, rootsJ_len]; omega)
  exact ⟨this.1, this.2.1⟩
theorem stepJ_same {J : Nat → Nat → Bool} {i k : Nat} {c : List Int} (h : gd c k = gd c i ∨ J k i = false) : stepJ J i c k = c := by rw [stepJ, if_pos h]
theorem stepJ_map {J : Nat → Nat → Bool} {i k : Nat} {c : List Int} (h : ¬ (gd c k = gd c i ∨ J k i = false)) : stepJ J i c k = c.map (rl (min (gd c k) (gd c i)) (max (gd c k) (gd c i))) := by rw [stepJ, if_neg h]
theorem pcL_gd_len {l : List (List Rect)} {i : Nat} (h : i < (pcL l 4).length) : (gd (pcL l 4) i).2.length = 6400 := pcL_mem (n := 4) (l := l) (by rw [gd_eq h]; exact List.getElem_mem h)
theorem pcL_gd_isL {l : List (List Rect)} {i : Nat} (h : i < (pcL l 4).length) : isL (gd (pcL l 4) i).1 := pcL_isL (by rw [gd_eq h]; exact List.getElem_mem h)
theorem numbers_at {cls : List Int} {n : Nat} (h : n < cls.length) (hr : Rt cls) : 0 ≤ gd cls n ∧ gd cls n ≤ n := ⟨(hr n h).1, (hr n h).2.1⟩
end Go.Proofs.YtmomfgfmnpblpaaGreat
namespace Go.Proofs.YtmomfgfmnpblpaaGreat
set_option linter.unusedVariables false
set_option linter.unusedSimpArgs false
open Go
set_option maxRecDepth 20000
set_option linter.unusedSimpArgs false
variable {G : Gh} {L : List Ch} {R : Value → Gh → List Ch → Prop}
theorem jnI_er (l : List (List Rect)) (p q : Piece) : jnI l (erP p) (erP q) = bif decide (q.layer < p.layer) then jnO l (erP q) (erP p) else jnO l (erP p) (erP q) := rfl
theorem jnO_er (l : List (List Rect)) (p q : Piece) : jnO l (erP p) (erP q) = bif decide (q.layer = 3) && decide (p.layer < 3) then meetIn p.reg.xs q.reg.xs (gd l 2) else decide (p.layer = 3) && decide (q.layer = 5) && meetIn p.reg.xs q.reg.xs (gd l 4) := rfl
theorem joined_s {v : Value} {xs : List (Sl Rect)} {p q : Piece} (h1 : Rs G L slT v xs) (hd : RsE G L rectT xs) (h8 : xs.length = 8) (hp : Rs G L rectT p.reg.v p.reg.xs) (hq : Rs G L rectT q.reg.v q.reg.xs) (k : R (.bool (jnI (er xs) (erP p) (erP q))) G L) : CallT Tryz.prog 145 #[v, vT pieceT p, vT pieceT q] G L R := by
  refine CallT.enter (args := _) Tryz.func145 rfl rfl (by kernel_rfl) rfl ?_
  refine WP.seq ?_
  refine WP.region ?_
  refine RG.ot rfl (OT.box (cs := pieceT.enc p) rfl rfl rfl fun b4 => ?_)
  refine RG.ot rfl (OT.box (cs := pieceT.enc q) rfl rfl rfl fun b5 => ?_)
  refine RG.pv rfl (PV.mvB (.inr rfl) rfl) ?_
  refine RG.nil ?_
  refine WP.cut1 [0, 4, 5] (fun (pq : Piece × Piece) => Rs G L rectT pq.1.reg.v pq.1.reg.xs ∧ Rs G L rectT pq.2.reg.v pq.2.reg.xs ∧ jnI (er xs) (erP p) (erP q) = jnO (er xs) (erP pq.1) (erP pq.2)) (fun (pq : Piece × Piece) => []) (fun (pq : Piece × Piece) => blk b4 143 (pieceT.enc pq.1) :: blk b5 143 (pieceT.enc pq.2) :: L) ?_ ?_
  refine WP.seq ?_
  refine WP.region ?_
  refine RG.pv rfl (PV.field rfl Fo143_0 rfl) ?_
  refine RG.pv rfl (PV.load1 rfl Sc2 rfl (Rd.blk rfl)) ?_
  refine RG.pv rfl (PV.field rfl Fo143_0 rfl) ?_
  refine RG.pv rfl (PV.load1 rfl Sc2 rfl (Rd.blk rfl)) ?_
  refine RG.pv rfl (PV.gtr rfl rfl rfl) ?_
  refine RG.nil ?_
  · refine WP.cond rfl (fun h2 => ?_) (fun h2 => ?_)
    · refine WP.region ?_
      refine RG.pv rfl (PV.loadW rfl Ag143 rfl rfl) ?_
      refine RG.pv rfl (PV.loadW rfl Ag143 rfl rfl) ?_
      refine RG.ot rfl (OT.storeW (vs := [vi _, _]) rfl Sz143 rfl rfl (Cl.c rfl) rfl rfl (OneC.val rfl (OneC.sl (SlF.r hq) OneC.nil)) ?_)
      refine RG.ot rfl (OT.storeW (vs := [vi _, _]) rfl Sz143 rfl rfl (Cl.c rfl) rfl rfl (OneC.val rfl (OneC.sl (SlF.r hp) OneC.nil)) ?_)
      refine RG.nil ?_
      exact ⟨rfl, (q, p), ⟨hq, hp, by rw [jnI_er, h2]; rfl⟩, trivial, ⟨rfl, rfl, rfl, trivial⟩, Cv.p⟩
    · refine WP.skip ?_
      exact ⟨rfl, (p, q), ⟨hp, hq, by rw [jnI_er, h2]; rfl⟩, trivial, ⟨rfl, rfl, rfl, trivial⟩, Cv.p⟩
  rintro pq τ0 ⟨hp', hq', hk⟩
  refine WP.seq ?_
  refine WP.seq ?_
  refine WP.region ?_
  refine RG.pv rfl (PV.field rfl Fo143_0 rfl) ?_
  refine RG.pv rfl (PV.load1 rfl Sc2 rfl (Rd.blk rfl)) ?_
  refine RG.pv rfl (PV.eql rfl rfl rfl) ?_
  refine RG.pv rfl (PV.mvB (.inl rfl) rfl) ?_
  refine RG.gs rfl rfl rfl (fun hp => (PV.field rfl Fo143_0 rfl)) ?_
  refine RG.gs rfl rfl rfl (fun hp => (PV.load1 rfl Sc2 (gs_t hp) (Rd.blk rfl))) ?_
  refine RG.gs rfl rfl rfl (fun hp => (PV.lss rfl (gs_t hp) rfl)) ?_
  refine RG.pv rfl (PV.pickA rfl rfl (fun hq => gs_t (geqT hq)) rfl) ?_
  refine RG.nil ?_
  rw [hk, jnO_er] at k
  refine WP.cond rfl (fun h3 => ?_) (fun h3 => ?_)
  · rw [h3] at k
    simp only [cond_true, er_gd] at k
    refine WP.seq ?_
    refine WP.regionQ (by kernel_rfl) (by kernel_rfl) ?_
    refine RQ.pv rfl (PV.field rfl Fo143_1 rfl) ?_
    refine RQ.pv rfl (PV.load1 rfl Sc56 rfl (Rd.blk rfl)) ?_
    refine RQ.pv rfl (PV.field rfl Fo143_1 rfl) ?_
    refine RQ.pv rfl (PV.load1 rfl Sc56 rfl (Rd.blk rfl)) ?_
    refine RQ.pv rfl (PV.move (v := v) rfl rfl) ?_
    refine RQ.pv rfl (PV.idxS (j := 2) (v := v) rfl Is29 rfl (SlF.r h1) rfl (by omega) (by omega)) ?_
    refine RQ.pv rfl (PV.loadE1 rfl Sc56 rfl rfl (El.r h1 (getG (by omega))) rfl) ?_
    refine RQ.callF (vs := [_, _, _]) rfl rfl En190 rfl (meetIn_s (Rs.up hp') (Rs.up hq') (Rs.up (hd 2 (by omega))) ⟨rfl, rfl, rfl⟩) ?_
    refine RQ.pv rfl (PV.mvB (.inr rfl) rfl) ?_
    refine RQ.nil ?_
    refine WP.ret ?_
    exact ⟨_, _, ResV.one rfl rfl, Cv.p, k⟩
  · rw [h3] at k
    simp only [cond_false, er_gd] at k
    refine WP.skip ?_
    refine WP.seq ?_
    refine WP.regionQ (by kernel_rfl) (by kernel_rfl) ?_
    refine RQ.pv rfl (PV.field rfl Fo143_0 rfl) ?_
    refine RQ.pv rfl (PV.load1 rfl Sc2 rfl (Rd.blk rfl)) ?_
    refine RQ.pv rfl (PV.eql rfl rfl rfl) ?_
    refine RQ.pv rfl (PV.mvB (.inl rfl) rfl) ?_
    refine RQ.gs rfl rfl rfl (fun hp => (PV.field rfl Fo143_0 rfl)) ?_
    refine RQ.gs rfl rfl rfl (fun hp => (PV.load1 rfl Sc2 (gs_t hp) (Rd.blk rfl))) ?_
    refine RQ.gs rfl rfl rfl (fun hp => (PV.eql rfl (gs_t hp) rfl)) ?_
    refine RQ.pv rfl (PV.pickA rfl rfl (fun hq => gs_t (geqT hq)) rfl) ?_
    refine RQ.pv rfl (PV.mvB (.inl rfl) rfl) ?_
    refine RQ.gs rfl rfl rfl (fun hp => (PV.field rfl Fo143_1 rfl)) ?_
    refine RQ.gs rfl rfl rfl (fun hp => (PV.load1 rfl Sc56 (gs_t hp) (Rd.blk rfl))) ?_
    refine RQ.gs rfl rfl rfl (fun hp => (PV.field rfl Fo143_1 rfl)) ?_
    refine RQ.gs rfl rfl rfl (fun hp => (PV.load1 rfl Sc56 (gs_t hp) (Rd.blk rfl))) ?_
    refine RQ.gs rfl rfl rfl (fun hp => (PV.move (v := v) rfl rfl)) ?_
    refine RQ.gs rfl rfl rfl (fun hp => (PV.idxS (j := 4) (v := v) rfl Is29 (gs_t hp) (SlF.r h1) rfl (by first | omega | (simp at hp; omega)) (by first | omega | (simp at hp; omega)))) ?_
    refine RQ.gs rfl rfl rfl (fun hp => (PV.loadE1 rfl Sc56 (gs_t hp) rfl (El.r h1 (getG (by first | omega | (simp at hp; omega)))) rfl)) ?_
    refine RQ.gsC rfl rfl rfl rfl En190 (fun hp => ⟨_, (acons (gs_t hp) (acons (gs_t hp) (acons (gs_t hp) anil))), meetIn_s (Rs.up hp') (Rs.up hq') (Rs.up (hd 4 (by omega))) ⟨rfl, rfl, rfl⟩⟩) ?_
    refine RQ.pv rfl (PV.pickA rfl rfl (fun hq => gs_t (geqT hq)) rfl) ?_
    refine RQ.pv rfl (PV.mvB (.inr rfl) rfl) ?_
    refine RQ.nil ?_
    refine WP.ret ?_
    exact ⟨_, _, ResV.one rfl rfl, Cv.p, k⟩
def nps (zs : List Net) : List (Sl Piece) := zs.map Net.pieces
theorem nps_len (zs : List Net) : (nps zs).length = zs.length := by simp [nps]
theorem nps_gd {zs : List Net} {i : Nat} (h : i < zs.length) : gd (nps zs) i = (gd zs i).pieces := gd_map _ h
theorem nps_append (xs ys : List Net) : nps (xs ++ ys) = nps xs ++ nps ys := by simp [nps]
theorem nps_set (zs : List Net) (i : Nat) (p : Net) : nps (zs.set i p) = (nps zs).set i p.pieces := by simp [nps, List.map_set]
theorem er_set {α : Type} (zs : List (Sl α)) (i : Nat) (s : Sl α) : er (zs.set i s) = (er zs).set i s.xs := by simp [er, List.map_set]
theorem er_append {α : Type} (xs ys : List (Sl α)) : er (xs ++ ys) = er xs ++ er ys := by simp [er]
/-- a net's pieces, out of the bag and written, go back -/
theorem Cv.slotN {e e' : TypeId} {v u : Value} {zs : List Net} {ys : List Piece} {L : List Ch} (i : Nat) (hi : i < zs.length) :
    Cv (osl e pieceT u ys :: osl e' netT v (zs.set i ⟨⟨u, ys⟩⟩) :: bag (((nps zs).map (ownS e pieceT)).set i emp) :: L) (osl e' netT v (zs.set i ⟨⟨u, ys⟩⟩) :: bagS e pieceT (nps (zs.set i ⟨⟨u, ys⟩⟩)) :: L) := by
  have h1 : Cv (osl e pieceT u ys :: osl e' netT v (zs.set i ⟨⟨u, ys⟩⟩) :: bag (((nps zs).map (ownS e pieceT)).set i emp) :: L) (osl e' netT v (zs.set i ⟨⟨u, ys⟩⟩) :: osl e pieceT u ys :: bag (((nps zs).map (ownS e pieceT)).set i emp) :: L) := Cv.swap (A := [osl e pieceT u ys]) (B := [osl e' netT v (zs.set i ⟨⟨u, ys⟩⟩)])
  refine h1.trans ((Cv.cons (Cv.bagS_put i (by rw [nps_len]; exact hi))).trans ?_)
  rw [nps_set]; exact Cv.refl _
/-- a bag in another order -/
theorem sep_perm {A B : List Ch} (h : A.Perm B) : ∀ hp, Sep A hp → Sep B hp := by
  induction h with
  | nil => exact fun _ h => h
  | cons x _ ih => exact fun hp ⟨h1, h2, d, l1, l2, c, s⟩ => ⟨h1, h2, d, l1, l2, c, ih h2 s⟩
  | swap x y l => exact Cv.swap (A := [y]) (B := [x]) (L := l)
  | trans _ _ ih1 ih2 => exact fun hp s => ih2 hp (ih1 hp s)
theorem Cv.bagPerm {α : Type} {e : TypeId} {F : FT α} {xs ys : List (Sl α)} {L : List Ch} (h : xs.Perm ys) : Cv (bagS e F xs :: L) (bagS e F ys :: L) :=
  Cv.imp fun hp s => sep_perm (h.map (ownS e F)) hp s
theorem erPs_pcL {l : List (List Rect)} {ps : List Piece} (h : erPs ps = (pcL l 4).map pcR) : ps.length = (pcL l 4).length ∧ ∀ i, i < ps.length → erP (gd ps i) = pcR (gd (pcL l 4) i) := by
  have hl : ps.length = (pcL l 4).length := by have := congrArg List.length h; rwa [erPs_len, List.length_map] at this
  exact ⟨hl, fun i hi => by rw [← erPs_gd hi, h, gd_map _ (by omega)]⟩
theorem pieces_b {v : Value} {xs : List (Sl Rect)} (h1 : Rs G L slT v xs) (hd : RsE G L rectT xs) (hlay : isLay (er xs) = true) (k : ∀ v' ps, erPs ps = (pcL (er xs) 4).map pcR → ps.length ≤ 25600 → R v' G (osl 143 pieceT v' ps :: bagS 61 rectT (regs ps) :: L)) : CallT Tryz.prog 144 #[v] G L R :=
  pieces_s h1 hd hlay fun v' ps h => k v' ps h (by have := pcL_len (er xs) 4; have := (erPs_pcL h).1; omega)
theorem set_mid {c : List Int} {n : Nat} {x : Int} (h : c.length < n) : (c ++ List.replicate (n - c.length) 0).set c.length x = c ++ [x] ++ List.replicate (n - (c.length + 1)) 0 := by
  rw [List.set_append_right _ _ (Nat.le_refl _), Nat.sub_self, show n - c.length = (n - (c.length + 1)) + 1 by omega, List.replicate_succ, List.set_cons_zero, List.append_assoc]
  simp
theorem netsOf_s {v : Value} {xs : List (Sl Rect)} (h1 : Rs G L slT v xs) (hd : RsE G L rectT xs) (hlay : isLay (er xs) = true) (k : ∀ v' zs, (er (nps zs)).map erPs = netL (er xs) → R v' G (osl 140 netT v' zs :: bagS 143 pieceT (nps zs) :: bagS 61 rectT (regs (er (nps zs)).flatten) :: L)) : CallT Tryz.prog 97 #[v] G L R := by
  have h8 : xs.length = 8 := by have := isLay_len hlay; rwa [er_len] at this
  refine CallT.enter (args := _) Tryz.func97 rfl rfl (by kernel_rfl) rfl ?_
  refine WP.seq ?_
  refine WP.region ?_
  refine RG.pv rfl (PV.asg rfl rfl) ?_
  refine RG.nil ?_
  refine WP.seq ?_
  refine WP.region ?_
  refine RG.pv rfl (PV.move (v := v) rfl rfl) ?_
  refine RG.callF (vs := [v]) rfl rfl En144 rfl (pieces_b (Rs.up h1) hd.up hlay (fun v16 psv16 hev16 hlv16 => ?_))
  refine RG.pv rfl (PV.asg (v := v16) rfl rfl) ?_
  refine RG.nil ?_
  refine WP.seq ?_
  refine WP.region ?_
  refine RG.pv rfl (PV.move (v := v16) rfl rfl) ?_
  refine RG.pv rfl (PV.len (v := v16) rfl Tryz.underlying138 rfl SlF.o) ?_
  refine RG.ot rfl (OT.make (F := intT) (a0 := 0) rfl El183 rfl (by decide) rfl rfl (by omega) (by omega) fun v19 => ?_)
  refine RG.pv rfl (PV.asg (v := v19) rfl rfl) ?_
  refine RG.nil ?_
  refine WP.seq ?_
  refine WP.seq ?_
  refine WP.region ?_
  refine RG.pv rfl (PV.move (v := v19) rfl rfl) ?_
  refine RG.pv rfl (PV.len (v := v19) rfl Tryz.underlying183 rfl SlF.o) ?_
  refine RG.pv rfl (PV.mvI (.inl rfl) rfl) ?_
  refine RG.nil ?_
  refine WP.block ?_
  obtain ⟨hpl, hpe⟩ := erPs_pcL hev16
  have hpl2 := pcL_len (er xs) 4
  have hJe : ∀ n i, n < psv16.length → i < psv16.length → jnI (er xs) (erP (gd psv16 n)) (erP (gd psv16 i)) = JL (er xs) n i := fun n i hn hi => by
    rw [hpe n hn, hpe i hi]
    exact jn_eq hlay (pcL_gd_isL (by omega)) (pcL_gd_isL (by omega)) (pcL_gd_len (by omega)) (pcL_gd_len (by omega))
  have hlr : (List.replicate psv16.length (0 : Int)).length = psv16.length := List.length_replicate
  have hcr : ∀ i, i < psv16.length → Rs G (osl 143 pieceT v16 psv16 :: bagS 61 rectT (regs psv16) :: L) rectT (gd psv16 i).reg.v (gd psv16 i).reg.xs := fun i hi => by
    have := Rs.inBag (G := G) (L := osl 143 pieceT v16 psv16 :: bagS 61 rectT (regs psv16) :: L) (e := 61) (F := rectT) (xs := regs psv16) i (by rw [regs_len]; exact hi)
    rwa [regs_gd hi] at this
  refine WP.cv (Cv.eqS (show List.replicate psv16.length 0 = rootsJ (JL (er xs)) 0 ++ List.replicate (psv16.length - 0) 0 from rfl)) ?_
  refine WP.loop1 [0, 3, 4, 21] (fun i => i ≤ psv16.length) (fun i => [(22, vi i)]) (fun i => osl 3 intT v19 (rootsJ (JL (er xs)) i ++ List.replicate (psv16.length - i) 0) :: osl 143 pieceT v16 psv16 :: bagS 61 rectT (regs psv16) :: L) (fun i => psv16.length - i) 0 (by omega) ⟨rfl, trivial⟩ Cv.p ?_
  rintro i τ hi
  refine WP.seq ?_
  refine WP.region ?_
  refine RG.pv rfl (PV.lss rfl rfl rfl) ?_
  refine RG.nil ?_
  refine WP.seq ?_
  have hrl := rootsJ_len (JL (er xs)) i
  have hal : (rootsJ (JL (er xs)) i ++ List.replicate (psv16.length - i) (0 : Int)).length = psv16.length := by simp [hrl]; omega
  refine WP.cond rfl (fun h3 => ?_) (fun h3 => ?_)
  · have h3 := of_decide_eq_true h3
    have h4 : i < psv16.length := by omega
    have hsm := set_mid (c := rootsJ (JL (er xs)) i) (n := psv16.length) (x := (i : Int)) (by omega)
    rw [hrl] at hsm
    refine WP.skip ?_
    refine WP.seq ?_
    refine WP.block ?_
    refine WP.seq ?_
    refine WP.region ?_
    refine RG.pv rfl (PV.mvI (.inl rfl) rfl) ?_
    refine RG.pv rfl (PV.mvI (.inr rfl) rfl) ?_
    refine RG.nil ?_
    refine WP.seq ?_
    refine WP.region ?_
    refine RG.pv rfl (PV.move (v := v19) rfl rfl) ?_
    refine RG.pv rfl (PV.mvI (.inl rfl) rfl) ?_
    refine RG.pv rfl (PV.mvI (.inl rfl) rfl) ?_
    refine RG.pv rfl (PV.idxS (v := v19) rfl Is183 rfl SlF.o rfl rfl (by omega)) ?_
    refine RG.ot rfl (OT.storeE (F := intT) rfl Sz3 rfl rfl rfl (Cl.c rfl) (OneC.c rfl) (by omega) ?_)
    refine RG.nil ?_
    refine WP.seq ?_
    refine WP.region ?_
    refine RG.pv rfl (PV.mvI (.inl rfl) rfl) ?_
    refine RG.pv rfl (PV.mvI (.inl rfl) rfl) ?_
    refine RG.nil ?_
    refine WP.block ?_
    refine WP.cv (Cv.eqS (hsm.trans (by rw [← inJ_zero (JL (er xs))]))) ?_
    refine WP.loop1 [0, 3, 4, 5, 21, 22, 29] (fun n => n ≤ i) (fun n => [(30, vi n)]) (fun n => osl 3 intT v19 (inJ (JL (er xs)) i (rootsJ (JL (er xs)) i) n ++ List.replicate (psv16.length - (i + 1)) 0) :: osl 143 pieceT v16 psv16 :: bagS 61 rectT (regs psv16) :: L) (fun n => i - n) 0 (by omega) ⟨rfl, trivial⟩ Cv.p ?_
    rintro n τ1 hn
    refine WP.seq ?_
    refine WP.region ?_
    refine RG.pv rfl (PV.lss rfl rfl rfl) ?_
    refine RG.nil ?_
    refine WP.seq ?_
    have hil := inJ_len (JL (er xs)) i (rootsJ (JL (er xs)) i) n
    have hil2 : (inJ (JL (er xs)) i (rootsJ (JL (er xs)) i) n).length = i + 1 := by omega
    have hin := fun j hj => inJ_le (J := JL (er xs)) (i := i) (k := n) (j := j) hn hj
    have hsc := inJ_succ (JL (er xs)) i (rootsJ (JL (er xs)) i) n
    generalize hceq : inJ (JL (er xs)) i (rootsJ (JL (er xs)) i) n = c at *
    have hal2 : (c ++ List.replicate (psv16.length - (i + 1)) (0 : Int)).length = psv16.length := by simp [hil2]; omega
    refine WP.cond rfl (fun h5 => ?_) (fun h5 => ?_)
    · have h5 := of_decide_eq_true h5
      have h6 : n < i := by omega
      have hgn : gd (c ++ List.replicate (psv16.length - (i + 1)) (0 : Int)) n = gd c n := gd_app_l (by omega)
      have hgi : gd (c ++ List.replicate (psv16.length - (i + 1)) (0 : Int)) i = gd c i := gd_app_l (by omega)
      have hin1 := hin n (by omega)
      have hin2 := hin i (by omega)
      have hJn := hJe n i (by omega) h4
      refine WP.skip ?_
      refine WP.seq ?_
      refine WP.block ?_
      refine WP.seq ?_
      refine WP.region ?_
      refine RG.pv rfl (PV.mvI (.inl rfl) rfl) ?_
      refine RG.pv rfl (PV.mvI (.inr rfl) rfl) ?_
      refine RG.nil ?_
      refine WP.seq ?_
      refine WP.seq ?_
      refine WP.regionQ (by kernel_rfl) (by kernel_rfl) ?_
      refine RQ.pv rfl (PV.move (v := v19) rfl rfl) ?_
      refine RQ.pv rfl (PV.mvI (.inl rfl) rfl) ?_
      refine RQ.pv rfl (PV.idxS (v := v19) rfl Is183 rfl SlF.o rfl rfl (by omega)) ?_
      refine RQ.pv rfl (PV.loadE1 rfl Sc3 rfl rfl (El.o (getG (by omega))) rfl) ?_
      refine RQ.pv rfl (PV.move (v := v19) rfl rfl) ?_
      refine RQ.pv rfl (PV.mvI (.inl rfl) rfl) ?_
      refine RQ.pv rfl (PV.idxS (v := v19) rfl Is183 rfl SlF.o rfl rfl (by omega)) ?_
      refine RQ.pv rfl (PV.loadE1 rfl Sc3 rfl rfl (El.o (getG (by omega))) rfl) ?_
      refine RQ.pv rfl (PV.eql rfl rfl rfl) ?_
      refine RQ.pv rfl (PV.mvB (.inl rfl) rfl) ?_
      refine RQ.gs rfl rfl rfl (fun hp => (PV.move (v := v) rfl rfl)) ?_
      refine RQ.gs rfl rfl rfl (fun hp => (PV.move (v := v16) rfl rfl)) ?_
      refine RQ.gs rfl rfl rfl (fun hp => (PV.mvI (.inl rfl) rfl)) ?_
      refine RQ.gs rfl rfl rfl (fun hp => (PV.idxS (v := v16) rfl Is138 (gs_t hp) SlF.o (gs_t hp) rfl (by first | omega | (simp at hp; omega)))) ?_
      refine RQ.gs rfl rfl rfl (fun hp => (PV.loadE rfl Ag143 (gs_t hp) rfl (El.o (getG (by first | omega | (simp at hp; omega)))))) ?_
      refine RQ.gs rfl rfl rfl (fun hp => (PV.move (v := v16) rfl rfl)) ?_
      refine RQ.gs rfl rfl rfl (fun hp => (PV.mvI (.inl rfl) rfl)) ?_
      refine RQ.gs rfl rfl rfl (fun hp => (PV.idxS (v := v16) rfl Is138 (gs_t hp) SlF.o (gs_t hp) rfl (by first | omega | (simp at hp; omega)))) ?_
      refine RQ.gs rfl rfl rfl (fun hp => (PV.loadE rfl Ag143 (gs_t hp) rfl (El.o (getG (by first | omega | (simp at hp; omega)))))) ?_
      refine RQ.gsC rfl rfl rfl rfl En145 (fun hp => ⟨_, (acons (gs_t hp) (acons (gs_t hp) (acons (gs_t hp) anil))), joined_s (Rs.up h1) hd.up h8 (hcr n (by omega)).up (hcr i (by omega)).up ⟨rfl, rfl, rfl⟩⟩) ?_
      refine RQ.gs rfl rfl rfl (fun hp => (PV.not rfl (gs_t hp))) ?_
      refine RQ.pv rfl (PV.pickO rfl rfl rfl (fun hq => gs_t (geqF hq))) ?_
      refine RQ.nil ?_
      refine WP.cond rfl (fun h7 => ?_) (fun h7 => ?_)
      · have hs : gd c n = gd c i ∨ JL (er xs) n i = false := by
          rw [hgn, hgi, hJn] at h7; revert h7
          cases JL (er xs) n i <;> simp
        refine WP.exit ?_
        refine WP.region ?_
        refine RG.pv rfl (PV.add rfl rfl rfl (by omega)) ?_
        refine RG.pv rfl (PV.mvI (.inl rfl) rfl) ?_
        refine RG.nil ?_
        exact ⟨rfl, n + 1, (by omega), ⟨rfl, trivial⟩, ⟨rfl, rfl, rfl, rfl, rfl, rfl, rfl, trivial⟩, (Cv.eqS (by rw [hsc, stepJ_same hs])), by omega⟩
      · have hs : ¬ (gd c n = gd c i ∨ JL (er xs) n i = false) := by
          rw [hgn, hgi, hJn] at h7; revert h7
          cases JL (er xs) n i <;> simp
        have hhi0 : max (gd c n) (gd c i) ≠ 0 := by rw [not_or] at hs; omega
        refine WP.skip ?_
        refine WP.seq ?_
        refine WP.regionQ (by kernel_rfl) (by kernel_rfl) ?_
        refine RQ.pv rfl (PV.move (v := v19) rfl rfl) ?_
        refine RQ.pv rfl (PV.mvI (.inl rfl) rfl) ?_
        refine RQ.pv rfl (PV.idxS (v := v19) rfl Is183 rfl SlF.o rfl rfl (by omega)) ?_
        refine RQ.pv rfl (PV.loadE1 rfl Sc3 rfl rfl (El.o (getG (by omega))) rfl) ?_
        refine RQ.pv rfl (PV.move (v := v19) rfl rfl) ?_
        refine RQ.pv rfl (PV.mvI (.inl rfl) rfl) ?_
        refine RQ.pv rfl (PV.idxS (v := v19) rfl Is183 rfl SlF.o rfl rfl (by omega)) ?_
        refine RQ.pv rfl (PV.loadE1 rfl Sc3 rfl rfl (El.o (getG (by omega))) rfl) ?_
        refine RQ.pv rfl (PV.min2 rfl rfl rfl) ?_
        refine RQ.pv rfl (PV.move (v := v19) rfl rfl) ?_
        refine RQ.pv rfl (PV.mvI (.inl rfl) rfl) ?_
        refine RQ.pv rfl (PV.idxS (v := v19) rfl Is183 rfl SlF.o rfl rfl (by omega)) ?_
        refine RQ.pv rfl (PV.loadE1 rfl Sc3 rfl rfl (El.o (getG (by omega))) rfl) ?_
        refine RQ.pv rfl (PV.move (v := v19) rfl rfl) ?_
        refine RQ.pv rfl (PV.mvI (.inl rfl) rfl) ?_
        refine RQ.pv rfl (PV.idxS (v := v19) rfl Is183 rfl SlF.o rfl rfl (by omega)) ?_
        refine RQ.pv rfl (PV.loadE1 rfl Sc3 rfl rfl (El.o (getG (by omega))) rfl) ?_
        refine RQ.pv rfl (PV.max2 rfl rfl rfl) ?_
        refine RQ.pv rfl (PV.mvI (.inr rfl) rfl) ?_
        refine RQ.pv rfl (PV.mvI (.inr rfl) rfl) ?_
        refine RQ.nil ?_
        refine WP.seq ?_
        refine WP.region ?_
        refine RG.pv rfl (PV.mvI (.inl rfl) rfl) ?_
        refine RG.pv rfl (PV.add rfl rfl rfl (by omega)) ?_
        refine RG.pv rfl (PV.mvI (.inl rfl) rfl) ?_
        refine RG.nil ?_
        refine WP.block ?_
        rw [hgn, hgi]
        refine WP.cv (Cv.eqS (mapTo_zero (rl (min (gd c n) (gd c i)) (max (gd c n) (gd c i))) (c ++ List.replicate (psv16.length - (i + 1)) 0)).symm) ?_
        generalize hlo : min (gd c n) (gd c i) = lo at *
        generalize hhi : max (gd c n) (gd c i) = hi2 at *
        refine WP.loop1 [0, 3, 4, 5, 7, 8, 21, 22, 29, 30, 74] (fun m => m ≤ i + 1) (fun m => [(75, vi m)]) (fun m => osl 3 intT v19 (mapTo (rl lo hi2) (c ++ List.replicate (psv16.length - (i + 1)) 0) m) :: osl 143 pieceT v16 psv16 :: bagS 61 rectT (regs psv16) :: L) (fun m => i + 1 - m) 0 (by omega) ⟨rfl, trivial⟩ Cv.p ?_
        rintro m τ2 hm
        refine WP.seq ?_
        refine WP.region ?_
        refine RG.pv rfl (PV.lss rfl rfl rfl) ?_
        refine RG.nil ?_
        refine WP.seq ?_
        have hml := mapTo_len (rl lo hi2) (c ++ List.replicate (psv16.length - (i + 1)) 0) (m := m) (by omega)
        refine WP.cond rfl (fun h8 => ?_) (fun h8 => ?_)
        · have h8 := of_decide_eq_true h8
          have hmg := mapTo_gd (f := rl lo hi2) (d := c ++ List.replicate (psv16.length - (i + 1)) 0) (m := m) (by omega)
          refine WP.skip ?_
          refine WP.seq ?_
          refine WP.block ?_
          refine WP.seq ?_
          refine WP.region ?_
          refine RG.pv rfl (PV.mvI (.inl rfl) rfl) ?_
          refine RG.pv rfl (PV.mvI (.inr rfl) rfl) ?_
          refine RG.nil ?_
          refine WP.seq ?_
          refine WP.region ?_
          refine RG.pv rfl (PV.move (v := v19) rfl rfl) ?_
          refine RG.pv rfl (PV.mvI (.inl rfl) rfl) ?_
          refine RG.pv rfl (PV.idxS (v := v19) rfl Is183 rfl SlF.o rfl rfl (by omega)) ?_
          refine RG.pv rfl (PV.loadE1 rfl Sc3 rfl rfl (El.o (getG (by omega))) rfl) ?_
          refine RG.pv rfl (PV.mvI (.inl rfl) rfl) ?_
          refine RG.pv rfl (PV.eql rfl rfl rfl) ?_
          refine RG.nil ?_
          refine WP.cond rfl (fun h9 => ?_) (fun h9 => ?_)
          · refine WP.region ?_
            refine RG.pv rfl (PV.move (v := v19) rfl rfl) ?_
            refine RG.pv rfl (PV.mvI (.inl rfl) rfl) ?_
            refine RG.pv rfl (PV.mvI (.inl rfl) rfl) ?_
            refine RG.pv rfl (PV.idxS (v := v19) rfl Is183 rfl SlF.o rfl rfl (by omega)) ?_
            refine RG.ot rfl (OT.storeE (F := intT) rfl Sz3 rfl rfl rfl (Cl.c rfl) (OneC.c rfl) (by omega) ?_)
            refine RG.nil ?_
            refine WP.region ?_
            refine RG.pv rfl (PV.add rfl rfl rfl (by omega)) ?_
            refine RG.pv rfl (PV.mvI (.inl rfl) rfl) ?_
            refine RG.nil ?_
            exact ⟨rfl, m + 1, (by omega), ⟨rfl, trivial⟩, ⟨rfl, rfl, rfl, rfl, rfl, rfl, rfl, rfl, rfl, rfl, rfl, trivial⟩, (Cv.eqS (by rw [← mapTo_set (by omega), rl, if_pos (by rw [hmg] at h9; simpa using h9)])), by omega⟩
          · refine WP.skip ?_
            refine WP.region ?_
            refine RG.pv rfl (PV.add rfl rfl rfl (by omega)) ?_
            refine RG.pv rfl (PV.mvI (.inl rfl) rfl) ?_
            refine RG.nil ?_
            exact ⟨rfl, m + 1, (by omega), ⟨rfl, trivial⟩, ⟨rfl, rfl, rfl, rfl, rfl, rfl, rfl, rfl, rfl, rfl, rfl, trivial⟩, (Cv.eqS (by rw [mapTo_skip (by omega)]; rw [rl, if_neg (by rw [hmg] at h9; simpa using h9)])), by omega⟩
        · have h8 := of_decide_eq_false h8
          obtain rfl : m = i + 1 := by omega
          have hma := mapTo_all (f := rl lo hi2) (c := c) (z := List.replicate (psv16.length - (i + 1)) 0)
          rw [hil2] at hma
          refine WP.exit ?_
          refine WP.region ?_
          refine RG.pv rfl (PV.add rfl rfl rfl (by omega)) ?_
          refine RG.pv rfl (PV.mvI (.inl rfl) rfl) ?_
          refine RG.nil ?_
          exact ⟨rfl, n + 1, (by omega), ⟨rfl, trivial⟩, ⟨rfl, rfl, rfl, rfl, rfl, rfl, rfl, trivial⟩, (Cv.eqS (by rw [hma, hsc, stepJ_map hs, hlo, hhi])), by omega⟩
    · have h5 := of_decide_eq_false h5
      obtain rfl : n = i := by omega
      refine WP.exit ?_
      refine WP.region ?_
      refine RG.pv rfl (PV.add rfl rfl rfl (by omega)) ?_
      refine RG.pv rfl (PV.mvI (.inl rfl) rfl) ?_
      refine RG.nil ?_
      exact ⟨rfl, n + 1, (by omega), ⟨rfl, trivial⟩, ⟨rfl, rfl, rfl, rfl, trivial⟩, (Cv.eqS (by rw [rootsJ, hceq])), by omega⟩
  · have h3 := of_decide_eq_false h3
    obtain rfl : i = psv16.length := by omega
    have hcl : rootsJ (JL (er xs)) psv16.length ++ List.replicate (psv16.length - psv16.length) 0 = clsL (er xs) := by rw [Nat.sub_self, List.replicate_zero, List.append_nil, hpl]; rfl
    refine WP.cv (Cv.eqS hcl) ?_
    have hrt := clsL_rt (er xs)
    have hcll := clsL_len (er xs)
    refine WP.exit ?_
    refine WP.cut2 [3, 4] (fun (o pq : Value) => True) (fun (o pq : Value) => [(10, o), (11, pq)]) (fun (o pq : Value) => osl 140 netT o ([] : List Net) :: osl 3 intT pq (List.replicate psv16.length 0) :: osl 3 intT v19 (clsL (er xs)) :: osl 143 pieceT v16 psv16 :: bagS 61 rectT (regs psv16) :: L) ?_ ?_
    refine WP.regionH0 (.q 1 (.q 2 (.b 0 (.q 4 (.l 3 (.q 5 Sch.nil))) 3 (.l 0 (.q 4 (.q 5 Sch.nil)))))) (by kernel_rfl) (by kernel_rfl) (by kernel_rfl) rfl ?_
    refine RH.pv rfl (fun _ _ _ _ h => h) (Gh.le_refl _) PickC.pick rfl (PV.move (v := v16) rfl rfl) ?_
    refine RH.pv rfl (fun _ _ _ _ h => h) (Gh.le_refl _) PickC.pick rfl (PV.len (v := v16) rfl Tryz.underlying138 rfl SlF.o) ?_
    · refine RH.ot2 rfl rfl rfl rfl  (OT.bslice (F := netT) (els := []) rfl El86 rfl (by decide) rfl (by decide) trivial fun v91 => ⟨Gh.le_refl _, PickC.pick, ?_⟩) (OT.make (F := intT) (a0 := 0) rfl El183 rfl (by decide) rfl rfl (by omega) (by omega) fun v94 => ⟨Gh.le_refl _, PickC.pick, ?_⟩)
      · refine RH.pv rfl (fun _ _ _ _ h => h) (Gh.le_refl _) PickC.pick rfl (PV.asg (v := v91) rfl rfl) ?_
        refine RH.ot rfl rfl (OT.make (F := intT) (a0 := 0) rfl El183 rfl (by decide) rfl rfl (by omega) (by omega) fun v94 => ⟨Gh.le_refl _, PickC.pick, ?_⟩)
        refine RH.pv rfl (fun _ _ _ _ h => h) (Gh.le_refl _) PickC.pick rfl (PV.asg (v := v94) rfl rfl) ?_
        refine RH.nil ?_
        exact ⟨rfl, v91, v94, trivial, ⟨rfl, rfl, trivial⟩, ⟨rfl, rfl, trivial⟩, Cv.p⟩
      · refine RH.ot rfl rfl (OT.bslice (F := netT) (els := []) rfl El86 rfl (by decide) rfl (by decide) trivial fun v91 => ⟨Gh.le_refl _, PickC.pick, ?_⟩)
        refine RH.pv rfl (fun _ _ _ _ h => h) (Gh.le_refl _) PickC.pick rfl (PV.asg (v := v91) rfl rfl) ?_
        refine RH.pv rfl (fun _ _ _ _ h => h) (Gh.le_refl _) PickC.pick rfl (PV.asg (v := v94) rfl rfl) ?_
        refine RH.nil ?_
        exact ⟨rfl, v91, v94, trivial, ⟨rfl, rfl, trivial⟩, ⟨rfl, rfl, trivial⟩, Cv.p⟩
    have hpr : ∀ j, j < 0 → gd (clsL (er xs)) j = (j : Int) → gd (List.replicate psv16.length (0 : Int)) j = (cntR (clsL (er xs)) j : Int) := fun j h => by omega
    rintro o pq τ3 _
    refine WP.seq ?_
    refine WP.seq ?_
    refine WP.region ?_
    refine RG.pv rfl (PV.move (v := v16) rfl rfl) ?_
    refine RG.pv rfl (PV.len (v := v16) rfl Tryz.underlying138 rfl SlF.o) ?_
    refine RG.pv rfl (PV.mvI (.inl rfl) rfl) ?_
    refine RG.nil ?_
    refine WP.block ?_
    refine WP.cv ((Cv.cons (Cv.bag0 (e := 143) (F := pieceT) (xs := nps []) rfl))) ?_
    refine WP.loop4 [4, 11, 95, 96] (fun (i : Nat) (zs : List Net) (pl : List Int) (q : Value) => i ≤ psv16.length ∧ er (nps zs) = netsP (clsL (er xs)) psv16 i ∧ pl.length = psv16.length ∧ ∀ j, j < i → gd (clsL (er xs)) j = (j : Int) → gd pl j = (cntR (clsL (er xs)) j : Int)) (fun (i : Nat) (zs : List Net) (pl : List Int) (q : Value) => [(97, vi i), (10, q)]) (fun (i : Nat) (zs : List Net) (pl : List Int) (q : Value) => osl 140 netT q zs :: bagS 143 pieceT (nps zs) :: osl 3 intT pq pl :: osl 3 intT v19 (clsL (er xs)) :: osl 143 pieceT v16 psv16 :: bagS 61 rectT (regs psv16) :: L) (fun (i : Nat) (zs : List Net) (pl : List Int) (q : Value) => psv16.length - i) 0 [] (List.replicate psv16.length 0) o ⟨by omega, rfl, hlr, hpr⟩ ⟨rfl, rfl, trivial⟩ Cv.p ?_
    rintro i zs pl q τ4 ⟨hi2, hzs, hpll, hpl3⟩
    refine WP.seq ?_
    refine WP.region ?_
    refine RG.pv rfl (PV.lss rfl rfl rfl) ?_
    refine RG.nil ?_
    refine WP.seq ?_
    have hcl0 := cntR_le (clsL (er xs)) i
    have hzl : zs.length = cntR (clsL (er xs)) i := by have := congrArg List.length hzs; rwa [er_len, nps_len, netsP_len] at this
    refine WP.cond rfl (fun h10 => ?_) (fun h10 => ?_)
    · have h10 := of_decide_eq_true h10
      have h11 : i < psv16.length := by omega
      have h12 : i < (clsL (er xs)).length := by omega
      obtain ⟨g1, g2⟩ := numbers_at h12 hrt
      have hcs := cntR_succ (clsL (er xs)) i
      refine WP.skip ?_
      refine WP.seq ?_
      refine WP.block ?_
      refine WP.seq ?_
      refine WP.region ?_
      refine RG.pv rfl (PV.mvI (.inl rfl) rfl) ?_
      refine RG.pv rfl (PV.idxS (v := v16) rfl Is138 rfl SlF.o rfl rfl (by omega)) ?_
      refine RG.pv rfl (PV.loadE rfl Ag143 rfl rfl (El.o (getG (by omega)))) ?_
      refine RG.ot rfl (OT.alloc rfl Zr143 fun b13 => ?_)
      refine RG.pv rfl (PV.mvI (.inr rfl) rfl) ?_
      refine RG.ot rfl (OT.storeW (vs := [vi _, _]) rfl Sz143 rfl rfl (Cl.c rfl) rfl rfl (OneC.val rfl (OneC.sl (SlF.r (hcr i h11)) OneC.nil)) ?_)
      refine RG.nil ?_
      refine WP.cut3 [4, 11, 12, 13, 95, 96, 97] (fun (zs2 : List Net) (pl2 : List Int) (q2 : Value) => er (nps zs2) = netsE (clsL (er xs)) psv16 i ∧ pl2.length = psv16.length ∧ ∀ j, j < i + 1 → gd (clsL (er xs)) j = (j : Int) → gd pl2 j = (cntR (clsL (er xs)) j : Int)) (fun (zs2 : List Net) (pl2 : List Int) (q2 : Value) => [(10, q2)]) (fun (zs2 : List Net) (pl2 : List Int) (q2 : Value) => osl 140 netT q2 zs2 :: bagS 143 pieceT (nps zs2) :: osl 3 intT pq pl2 :: osl 3 intT v19 (clsL (er xs)) :: osl 143 pieceT v16 psv16 :: bagS 61 rectT (regs psv16) :: blk b13 143 (pieceT.enc (gd psv16 i)) :: L) ?_ ?_
      refine WP.seq ?_
      refine WP.region ?_
      refine RG.pv rfl (PV.move (v := v19) rfl rfl) ?_
      refine RG.pv rfl (PV.mvI (.inl rfl) rfl) ?_
      refine RG.pv rfl (PV.idxS (v := v19) rfl Is183 rfl SlF.o rfl rfl (by omega)) ?_
      refine RG.pv rfl (PV.loadE1 rfl Sc3 rfl rfl (El.o (getG (by omega))) rfl) ?_
      refine RG.pv rfl (PV.mvI (.inl rfl) rfl) ?_
      refine RG.pv rfl (PV.eql rfl rfl rfl) ?_
      refine RG.nil ?_
      · refine WP.cond rfl (fun h13 => ?_) (fun h13 => ?_)
        · have h13 : gd (clsL (er xs)) i = (i : Int) := by simpa using h13
          refine WP.seq ?_
          refine WP.region ?_
          refine RG.pv rfl (PV.move (v := pq) rfl rfl) ?_
          refine RG.pv rfl (PV.mvI (.inl rfl) rfl) ?_
          refine RG.pv rfl (PV.move (v := q) rfl rfl) ?_
          refine RG.pv rfl (PV.len (v := q) rfl Tryz.underlying86 rfl SlF.o) ?_
          refine RG.pv rfl (PV.idxS (v := pq) rfl Is183 rfl SlF.o rfl rfl (by omega)) ?_
          refine RG.ot rfl (OT.storeE (a := (zs.length : Int)) (F := intT) rfl Sz3 rfl rfl rfl (Cl.c rfl) (OneC.c rfl) (by omega) ?_)
          refine RG.nil ?_
          refine WP.region ?_
          refine RG.pv rfl (PV.move (v := q) rfl rfl) ?_
          refine RG.pv rfl (PV.build (vs := []) (out := [_]) rfl Zr140 Pl140 trivial rfl) ?_
          refine RG.ot rfl (OT.bslice (F := netT) (els := [⟨⟨.slice none 0 0, []⟩⟩]) rfl El86 rfl (by decide) rfl (by decide) ⟨rfl, (Cl.c rfl), trivial⟩ fun v115 => ?_)
          refine RG.ot rfl (OT.append (v := q) (u := v115) (F := netT) rfl El86 rfl (by decide) rfl rfl Rs.o (OneL.one (OneC.c rfl)) rfl (by first | omega | (simp <;> omega)) fun v116 => ?_)
          refine RG.pv rfl (PV.asg (v := v116) rfl rfl) ?_
          refine RG.nil ?_
          refine ⟨rfl, (zs ++ [⟨⟨.slice none 0 0, []⟩⟩]), (pl.set i (zs.length : Int)), v116, ⟨?_, by simpa using hpll, ?_⟩, ⟨rfl, trivial⟩, ⟨rfl, rfl, rfl, rfl, rfl, rfl, rfl, trivial⟩, ((Cv.p (C := osl 140 netT v116 (zs ++ [⟨⟨.slice none 0 0, []⟩⟩]) :: bagS 143 pieceT (nps zs) :: osl 3 intT pq (pl.set i (zs.length : Int)) :: osl 3 intT v19 (clsL (er xs)) :: osl 143 pieceT v16 psv16 :: bagS 61 rectT (regs psv16) :: blk b13 143 (pieceT.enc (gd psv16 i)) :: L)).trans (Cv.cons (Cv.nilS.trans (Cv.grow (by rw [nps_append]; rfl)))))⟩
          · rw [nps_append, er_append, hzs, netsE, if_pos h13]; rfl
          · intro j hj hr
            by_cases c : j = i
            · subst c; simp [gd, hpll, h11, hzl]
            · have := hpl3 j (by omega) hr
              simpa [gd, List.getElem?_set, Ne.symm c] using this
        · have h13 : gd (clsL (er xs)) i ≠ (i : Int) := by simpa using h13
          refine WP.skip ?_
          refine ⟨rfl, zs, pl, q, ⟨by rw [hzs, netsE, if_neg h13], hpll, fun j hj hr => ?_⟩, ⟨rfl, trivial⟩, ⟨rfl, rfl, rfl, rfl, rfl, rfl, rfl, trivial⟩, Cv.p⟩
          by_cases c : j = i
          · subst c; exact absurd hr h13
          · exact hpl3 j (by omega) hr
      rintro zs2 pl2 q2 τ5 ⟨hzs2, hpll2, hpl4⟩
      have hzl2 : zs2.length = cntR (clsL (er xs)) (i + 1) := by have := congrArg List.length hzs2; rwa [er_len, nps_len, netsE_len] at this
      have hnl := numR_lt hrt h12 (Nat.lt_add_one i)
      have hr3 := (hrt i h12).2.2
      have hplg : gd pl2 (gd (clsL (er xs)) i).toNat = (numR (clsL (er xs)) i : Int) := by rw [hpl4 _ (by omega) (by rw [hr3]; omega)]; rfl
      have hme : (gd zs2 (numR (clsL (er xs)) i)).pieces.xs = gd (netsE (clsL (er xs)) psv16 i) (numR (clsL (er xs)) i) := by rw [← hzs2, er_gd, nps_gd (by omega)]
      have hml3 : (gd zs2 (numR (clsL (er xs)) i)).pieces.xs.length ≤ 25600 := by
        rw [hme, netsE_gd hrt h12 hnl, List.length_map]
        have := List.length_filter_le (fun j => decide (numR (clsL (er xs)) j = numR (clsL (er xs)) i)) (List.range i)
        rw [List.length_range] at this; omega
      refine WP.cv ((Cv.cons (Cv.bagS_take (numR (clsL (er xs)) i) (by rw [nps_len]; omega))).trans (Cv.cast (by rw [nps_gd (by omega)]))) ?_
      refine WP.seq ?_
      refine WP.region ?_
      refine RG.pv rfl (PV.move (v := q2) rfl rfl) ?_
      refine RG.pv rfl (PV.move (v := pq) rfl rfl) ?_
      refine RG.pv rfl (PV.move (v := v19) rfl rfl) ?_
      refine RG.pv rfl (PV.mvI (.inl rfl) rfl) ?_
      refine RG.pv rfl (PV.idxS (v := v19) rfl Is183 rfl SlF.o rfl rfl (by omega)) ?_
      refine RG.pv rfl (PV.loadE1 rfl Sc3 rfl rfl (El.o (getG (by omega))) rfl) ?_
      refine RG.pv rfl (PV.idxS (j := (gd (clsL (er xs)) i).toNat) (v := pq) rfl Is183 rfl SlF.o rfl (by omega) (by omega)) ?_
      refine RG.pv rfl (PV.loadE1 rfl Sc3 rfl rfl (El.o (getG (by omega))) rfl) ?_
      refine RG.pv rfl (PV.idxS (j := numR (clsL (er xs)) i) (v := q2) rfl Is86 rfl SlF.o rfl (by omega) (by omega)) ?_
      refine RG.pv rfl (PV.mvP (.inr rfl) rfl) ?_
      refine RG.nil ?_
      refine WP.regionHD [.s q2, .s (gd zs2 (numR (clsL (er xs)) i)).pieces.v] (.q 0 (.q 1 (.q 2 (.q 3 (.q 5 (.b 4 (.l 6 (.l 7 (.q 8 (.q 9 (.l 10 Sch.nil))))) 6 (.l 4 (.l 7 (.q 8 (.q 9 (.l 10 Sch.nil))))))))))) (by kernel_rfl) (by kernel_rfl) (by kernel_rfl) rfl ?_
      refine RH.pv rfl (fun _ _ _ _ h => h) (Gh.le_refl _) PickC.pick rfl (PV.mvP (.inl rfl) rfl) ?_
      refine RH.pv rfl (fun _ _ _ _ h => h) (Gh.le_refl _) PickC.pick rfl (PV.mvP (.inl rfl) rfl) ?_
      refine RH.pv rfl (fun _ _ _ _ h => h) (Gh.le_refl _) PickC.pick rfl (PV.nilc rfl rfl) ?_
      refine RH.pv rfl (fun _ _ _ _ h => h) (Gh.le_refl _) PickC.pick rfl (PV.field rfl Fo140_0 rfl) ?_
      refine RH.pv rfl (fun _ _ _ _ h => h) (Gh.le_refl _) PickC.pick rfl (PV.loadW rfl Ag143 rfl rfl) ?_
      have hfin : er (nps (zs2.set (numR (clsL (er xs)) i) ⟨⟨default, (gd zs2 (numR (clsL (er xs)) i)).pieces.xs ++ [gd psv16 i]⟩⟩)) = netsP (clsL (er xs)) psv16 (i + 1) := by
        rw [nps_set, er_set, hzs2, netsP_succ hrt h12, hme]
      have hfin2 : ∀ w, er (nps (zs2.set (numR (clsL (er xs)) i) ⟨⟨w, (gd zs2 (numR (clsL (er xs)) i)).pieces.xs ++ [gd psv16 i]⟩⟩)) = netsP (clsL (er xs)) psv16 (i + 1) := fun w => by
        rw [← hfin, nps_set, nps_set, er_set, er_set]
      refine RH.ot2 rfl rfl rfl rfl  (OT.pv (PV.loadF (v := q2) (j := 0) rfl Sc138 rfl rfl (El.o (getG (by omega))) rfl) ⟨Gh.le_refl _, PickC.pick, ?_⟩) (OT.bslice (F := pieceT) (els := [⟨(gd psv16 i).layer, (gd psv16 i).reg⟩]) rfl El138 rfl (by decide) rfl (by decide) ⟨rfl, (Cl.c rfl), trivial⟩ fun v132 => ⟨Gh.le_refl _, PickC.pick, ?_⟩)
      · refine RH.ot rfl rfl (OT.bslice (F := pieceT) (els := [⟨(gd psv16 i).layer, (gd psv16 i).reg⟩]) rfl El138 rfl (by decide) rfl (by decide) ⟨rfl, (Cl.c rfl), trivial⟩ fun v132 => ⟨Gh.le_refl _, PickC.pick, ?_⟩)
        refine RH.ot rfl rfl (OT.append (v := (gd zs2 (numR (clsL (er xs)) i)).pieces.v) (u := v132) (F := pieceT) rfl El138 rfl (by decide) rfl rfl Rs.o (OneL.one (OneC.val rfl (OneC.sl (SlF.r (hcr i h11)) OneC.nil))) rfl (by first | omega | (simp <;> omega)) fun v133 => ⟨Gh.le_refl _, PickC.pick, ?_⟩)
        refine RH.pv rfl (fun _ _ _ _ h => h) (Gh.le_refl _) PickC.pick rfl (PV.nilc rfl rfl) ?_
        refine RH.pv rfl (fun _ _ _ _ h => h) (Gh.le_refl _) PickC.pick rfl (PV.field rfl Fo140_0 rfl) ?_
        refine RH.ot rfl rfl (OT.storeF (F := netT) (val := Sl.v) (cv := fun u => [u.v]) (u := ⟨v133, (gd zs2 (numR (clsL (er xs)) i)).pieces.xs ++ [gd psv16 i]⟩) (st := Net.s0) rfl Sz138 rfl rfl rfl (Cl.s (v := v133) SlF.o) rfl (OneC.sl SlF.o OneC.nil) (by exact set_self (by omega)) (by first | omega | (simp; omega)) rfl (fun _ _ => rfl) ⟨Gh.le_refl _, PickC.pick, ?_⟩)
        refine RH.nil ?_
        refine WP.region ?_
        refine RG.pv rfl (PV.add rfl rfl rfl (by first | omega | (simp only [List.length_set]; omega))) ?_
        refine RG.pv rfl (PV.mvI (.inl rfl) rfl) ?_
        refine RG.nil ?_
        exact ⟨rfl, i + 1, (zs2.set (numR (clsL (er xs)) i) ⟨⟨v133, (gd zs2 (numR (clsL (er xs)) i)).pieces.xs ++ [gd psv16 i]⟩⟩), pl2, q2, ⟨by omega, hfin2 _, hpll2, hpl4⟩, ⟨rfl, rfl, trivial⟩, ⟨rfl, rfl, rfl, rfl, trivial⟩, ((Cv.p (C := osl 143 pieceT v133 ((gd zs2 (numR (clsL (er xs)) i)).pieces.xs ++ [gd psv16 i]) :: osl 140 netT q2 (zs2.set (numR (clsL (er xs)) i) ⟨⟨v133, (gd zs2 (numR (clsL (er xs)) i)).pieces.xs ++ [gd psv16 i]⟩⟩) :: bag (((nps zs2).map (ownS 143 pieceT)).set (numR (clsL (er xs)) i) emp) :: osl 3 intT pq pl2 :: osl 3 intT v19 (clsL (er xs)) :: osl 143 pieceT v16 psv16 :: bagS 61 rectT (regs psv16) :: L)).trans (Cv.slotN _ (by omega))), by omega⟩
      · refine RH.ot rfl rfl (OT.pv (PV.loadF (v := q2) (j := 0) rfl Sc138 rfl rfl (El.o (getG (by omega))) rfl) ⟨Gh.le_refl _, PickC.pick, ?_⟩)
        refine RH.ot rfl rfl (OT.append (v := (gd zs2 (numR (clsL (er xs)) i)).pieces.v) (u := v132) (F := pieceT) rfl El138 rfl (by decide) rfl rfl Rs.o (OneL.one (OneC.val rfl (OneC.sl (SlF.r (hcr i h11)) OneC.nil))) rfl (by first | omega | (simp <;> omega)) fun v133 => ⟨Gh.le_refl _, PickC.pick, ?_⟩)
        refine RH.pv rfl (fun _ _ _ _ h => h) (Gh.le_refl _) PickC.pick rfl (PV.nilc rfl rfl) ?_
        refine RH.pv rfl (fun _ _ _ _ h => h) (Gh.le_refl _) PickC.pick rfl (PV.field rfl Fo140_0 rfl) ?_
        refine RH.ot rfl rfl (OT.storeF (F := netT) (val := Sl.v) (cv := fun u => [u.v]) (u := ⟨v133, (gd zs2 (numR (clsL (er xs)) i)).pieces.xs ++ [gd psv16 i]⟩) (st := Net.s0) rfl Sz138 rfl rfl rfl (Cl.s (v := v133) SlF.o) rfl (OneC.sl SlF.o OneC.nil) (by exact set_self (by omega)) (by first | omega | (simp; omega)) rfl (fun _ _ => rfl) ⟨Gh.le_refl _, PickC.pick, ?_⟩)
        refine RH.nil ?_
        refine WP.region ?_
        refine RG.pv rfl (PV.add rfl rfl rfl (by first | omega | (simp only [List.length_set]; omega))) ?_
        refine RG.pv rfl (PV.mvI (.inl rfl) rfl) ?_
        refine RG.nil ?_
        exact ⟨rfl, i + 1, (zs2.set (numR (clsL (er xs)) i) ⟨⟨v133, (gd zs2 (numR (clsL (er xs)) i)).pieces.xs ++ [gd psv16 i]⟩⟩), pl2, q2, ⟨by omega, hfin2 _, hpll2, hpl4⟩, ⟨rfl, rfl, trivial⟩, ⟨rfl, rfl, rfl, rfl, trivial⟩, ((Cv.p (C := osl 143 pieceT v133 ((gd zs2 (numR (clsL (er xs)) i)).pieces.xs ++ [gd psv16 i]) :: osl 140 netT q2 (zs2.set (numR (clsL (er xs)) i) ⟨⟨v133, (gd zs2 (numR (clsL (er xs)) i)).pieces.xs ++ [gd psv16 i]⟩⟩) :: bag (((nps zs2).map (ownS 143 pieceT)).set (numR (clsL (er xs)) i) emp) :: osl 3 intT pq pl2 :: osl 3 intT v19 (clsL (er xs)) :: osl 143 pieceT v16 psv16 :: bagS 61 rectT (regs psv16) :: L)).trans (Cv.slotN _ (by omega))), by omega⟩
    · have h10 := of_decide_eq_false h10
      obtain rfl : i = psv16.length := by omega
      have hpm := netsP_perm hrt psv16 (by omega)
      rw [← hzs] at hpm
      have hfin : (er (nps zs)).map erPs = netL (er xs) := by
        rw [hzs, netL, ← hev16, erPs, ← hpl, netsP_map erP _ _ (Nat.le_refl _)]; rfl
      refine WP.exit ?_
      refine WP.seq ?_
      refine WP.region ?_
      refine RG.pv rfl (PV.move (v := q) rfl rfl) ?_
      refine RG.pv rfl (PV.asg (v := q) rfl rfl) ?_
      refine RG.nil ?_
      refine WP.ret ?_
      exact ⟨_, _, ResV.one rfl rfl, ((Cv.p (C := bagS 61 rectT (regs psv16) :: osl 140 netT q zs :: bagS 143 pieceT (nps zs) :: L)).trans ((Cv.bagPerm (ys := regs (er (nps zs)).flatten) (hpm.symm.map Piece.reg)).trans Cv.p)), k q zs hfin⟩
end Go.Proofs.YtmomfgfmnpblpaaGreat
namespace Go.Proofs.YtmomfgfmnpblpaaGreat
set_option linter.unusedVariables false
set_option linter.unusedSimpArgs false
open Go
set_option linter.unusedSimpArgs false
set_option maxRecDepth 20000
def Apart (p q : Int × List Bool) : Prop := p.1 = q.1 → ∀ y x, y < 80 → x < 80 → gb p.2 y x = true → gb q.2 y x = true → False
theorem comps_apart (S : List Bool) : (comps S).Pairwise fun c d => ∀ y x, y < 80 → x < 80 → gb c y x = true → gb d y x = true → False := by
  classical
  unfold comps
  rw [List.pairwise_map]
  refine List.Pairwise.imp_of_mem (fun {a b} ha hb hab => ?_) (firsts_sorted S 6400)
  intro y x hy hx h1 h2
  have fa : First S a := by simpa using (List.mem_filter.1 ha).2
  have fb : First S b := by simpa using (List.mem_filter.1 hb).2
  have c1 := (comp_iff hy hx).1 h1
  have c2 := (comp_iff hy hx).1 h2
  exact fb.2 a hab fa.1 (c1.trans (c2.symm fb.1))
theorem lay_ne {i n : Nat} (h : i < n) (hn : n < 4) : gd [0, 1, 3, 5] i ≠ (gd [0, 1, 3, 5] n : Int) := by
  rcases (by omega : n = 1 ∨ n = 2 ∨ n = 3) with rfl | rfl | rfl
  · obtain rfl : i = 0 := by omega
    simp [gd]
  · rcases (by omega : i = 0 ∨ i = 1) with rfl | rfl <;> simp [gd]
  · rcases (by omega : i = 0 ∨ i = 1 ∨ i = 2) with rfl | rfl | rfl <;> simp [gd]
theorem pcL_layer {l : List (List Rect)} {n : Nat} {p : Int × List Bool} (h : p ∈ pcL l n) : ∃ i, i < n ∧ p.1 = gd [0, 1, 3, 5] i := by
  obtain ⟨m, h1, h2⟩ := List.mem_flatten.1 h
  obtain ⟨i, hi, rfl⟩ := List.mem_map.1 h1
  obtain ⟨c, hc, rfl⟩ := List.mem_map.1 h2
  exact ⟨i, List.mem_range.1 hi, rfl⟩
theorem pcL_apart (l : List (List Rect)) : ∀ n, n ≤ 4 → (pcL l n).Pairwise Apart
  | 0, _ => by simp [pcL]
  | n + 1, hn => by
    rw [pcL_succ, List.pairwise_append]
    refine ⟨pcL_apart l n (by omega), ?_, ?_⟩
    · rw [List.pairwise_map]
      refine (comps_apart _).imp ?_
      intro a b h _; exact h
    · intro p hp q hq e
      exfalso
      obtain ⟨i, hi, h1⟩ := pcL_layer hp
      obtain ⟨c, hc, rfl⟩ := List.mem_map.1 hq
      exact lay_ne hi (by omega) (h1.symm.trans e)
theorem pcL_uniq {l : List (List Rect)} {i j : Nat} (hi : i < (pcL l 4).length) (hj : j < (pcL l 4).length) (e : (gd (pcL l 4) i).1 = (gd (pcL l 4) j).1) {y x : Nat} (hy : y < 80) (hx : x < 80) (h1 : gb (gd (pcL l 4) i).2 y x = true) (h2 : gb (gd (pcL l 4) j).2 y x = true) : i = j := by
  have hp := List.pairwise_iff_getElem.1 (pcL_apart l 4 (Nat.le_refl _))
  rw [gd_eq hi, gd_eq hj] at e; rw [gd_eq hi] at h1; rw [gd_eq hj] at h2
  rcases Nat.lt_trichotomy i j with c | c | c
  · exact (hp i j hi hj c e y x hy hx h1 h2).elim
  · exact c
  · exact (hp j i hj hi c e.symm y x hy hx h2 h1).elim
def cellB (S : List Bool) (x y : Int) : Bool := (decide (-40 ≤ x ∧ x < 40) && decide (-40 ≤ y ∧ y < 40)) && gd S ((y + 40) * 80 + x + 40).toNat
theorem cellB_in {S : List Bool} {x y : Int} (h : -40 ≤ x ∧ x < 40 ∧ -40 ≤ y ∧ y < 40) : cellB S x y = gb S (y + 40).toNat (x + 40).toNat := by
  have e : ((y + 40) * 80 + x + 40).toNat = (y + 40).toNat * 80 + (x + 40).toNat := by omega
  rw [cellB, decide_eq_true (by omega), decide_eq_true (by omega), e]; rfl
theorem cellB_out {S : List Bool} {x y : Int} (h : ¬ (-40 ≤ x ∧ x < 40 ∧ -40 ≤ y ∧ y < 40)) : cellB S x y = false := by
  rw [cellB]
  by_cases c : -40 ≤ x ∧ x < 40
  · rw [decide_eq_false (p := -40 ≤ y ∧ y < 40) (by omega)]; simp
  · rw [decide_eq_false c]; simp
theorem cellB_true {S : List Bool} {x y : Int} (h : cellB S x y = true) : -40 ≤ x ∧ x < 40 ∧ -40 ≤ y ∧ y < 40 := by
  by_cases c : -40 ≤ x ∧ x < 40 ∧ -40 ≤ y ∧ y < 40
  · exact c
  · rw [cellB_out c] at h; cases h
def rHas (r : Rect) (x y : Int) : Bool := validRect r && decide (r.x0 ≤ x) && decide (x < r.x1) && decide (r.y0 ≤ y) && decide (y < r.y1)
theorem rHas_in {r : Rect} {x y : Int} (hv : validRect r = true) (h : -40 ≤ x ∧ x < 40 ∧ -40 ≤ y ∧ y < 40) : rHas r x y = inR r (y + 40).toNat (x + 40).toNat := by
  rw [Bool.eq_iff_iff, inR_iff]
  simp only [rHas, hv, Bool.true_and, Bool.and_eq_true, decide_eq_true_eq]
  omega
theorem rHas_out {r : Rect} {x y : Int} (h : ¬ (-40 ≤ x ∧ x < 40 ∧ -40 ≤ y ∧ y < 40)) : rHas r x y = false := by
  rw [Bool.eq_false_iff]
  intro k
  simp only [rHas, Bool.and_eq_true, decide_eq_true_eq] at k
  have := validR_iff.1 k.1.1.1.1
  omega
/-- a region has a cell just if its set has it -/
theorem has_canon {c : List Bool} (hc : c.length = 6400) (x y : Int) : ((canon c).any fun r => rHas r x y) = cellB c x y := by
  by_cases h : -40 ≤ x ∧ x < 40 ∧ -40 ≤ y ∧ y < 40
  · rw [cellB_in h, ← bits_canon hc, gb_bits' _ (by omega) (by omega), bits_canon hc]
    have hv := isReg_valid (isReg_canon hc)
    rw [Bool.eq_iff_iff, List.any_eq_true, List.any_eq_true]
    constructor
    · rintro ⟨r, hr, k⟩; exact ⟨r, hr, by rw [← rHas_in (valid_mem hv hr) h]; exact k⟩
    · rintro ⟨r, hr, k⟩; exact ⟨r, hr, by rw [rHas_in (valid_mem hv hr) h]; exact k⟩
  · rw [cellB_out h, List.any_eq_false]
    intro r _; simp [rHas_out h]
def atB (n x y : Int) (p : Int × List Bool) : Bool := decide (p.1 = n) && cellB p.2 x y
def atR (n x y : Int) (p : Int × List Rect) : Bool := decide (p.1 = n) && p.2.any fun r => rHas r x y
theorem atR_pcR {n x y : Int} {p : Int × List Bool} (h : p.2.length = 6400) : atR n x y (pcR p) = atB n x y p := by
  rw [atR, atB, pcR, has_canon h]
theorem atB_uniq {l : List (List Rect)} {n x y : Int} {i j : Nat} (hi : i < (pcL l 4).length) (hj : j < (pcL l 4).length) (h1 : atB n x y (gd (pcL l 4) i) = true) (h2 : atB n x y (gd (pcL l 4) j) = true) : i = j := by
  simp only [atB, Bool.and_eq_true, decide_eq_true_eq] at h1 h2
  have hr := cellB_true h1.2
  rw [cellB_in hr] at h1 h2
  exact pcL_uniq hi hj (h1.1.trans h2.1.symm) (by omega) (by omega) h1.2 h2.2
/-- the number of the net of the first piece at a place -/
noncomputable def findL (l : List (List Rect)) (n x y : Int) : Int :=
  match (pcL l 4).findIdx? (atB n x y) with
  | some i => numR (clsL l) i
  | none => -1
theorem findL_at {l : List (List Rect)} {n x y : Int} {i : Nat} (hi : i < (pcL l 4).length) (h : atB n x y (gd (pcL l 4) i) = true) : findL l n x y = numR (clsL l) i := by
  have : (pcL l 4).findIdx? (atB n x y) = some i := by
    rw [List.findIdx?_eq_some_iff_getElem]
    refine ⟨hi, by rwa [gd_eq hi] at h, fun j hj hp => ?_⟩
    have := atB_uniq (i := j) (by omega) hi (by rw [gd_eq (by omega)]; exact hp) h
    omega
  rw [findL, this]
theorem findL_none {l : List (List Rect)} {n x y : Int} (h : ∀ i, i < (pcL l 4).length → atB n x y (gd (pcL l 4) i) = false) : findL l n x y = -1 := by
  have : (pcL l 4).findIdx? (atB n x y) = none := by
    rw [List.findIdx?_eq_none_iff]
    intro p hp
    obtain ⟨j, hj, rfl⟩ := List.getElem_of_mem hp
    rw [← gd_eq hj]; exact h j hj
  rw [findL, this]
theorem netL_gd {l : List (List Rect)} {k : Nat} (h : k < netN l) : gd (netL l) k = ((List.range (pcL l 4).length).filter fun j => decide (numR (clsL l) j = k)).map fun j => pcR (gd (pcL l 4) j) := by
  rw [netL, netsP_gd h]
  apply List.map_congr_left
  intro j hj
  have := List.mem_range.1 (List.mem_filter.1 hj).1
  exact gd_map _ this
theorem netAt_eq (l : List (List Rect)) (n x y : Int) : idxI (fun net => net.any (atR n x y)) (netL l) = findL l n x y := by
  have hnet : ∀ k, k < netN l → ((gd (netL l) k).any (atR n x y) = true ↔ ∃ j, j < (pcL l 4).length ∧ numR (clsL l) j = k ∧ atB n x y (gd (pcL l 4) j) = true) := fun k hk => by
    rw [netL_gd hk, List.any_map, List.any_eq_true]
    constructor
    · rintro ⟨j, hj, h⟩
      have h1 := List.mem_range.1 (List.mem_filter.1 hj).1
      have h2 := (List.mem_filter.1 hj).2
      exact ⟨j, h1, by simpa using h2, by rw [← atR_pcR (pcL_mem (n := 4) (l := l) (by rw [gd_eq h1]; exact List.getElem_mem h1))]; exact h⟩
    · rintro ⟨j, h1, h2, h3⟩
      exact ⟨j, List.mem_filter.2 ⟨List.mem_range.2 h1, by simpa using h2⟩, by
        show atR n x y (pcR (gd (pcL l 4) j)) = true
        rw [atR_pcR (pcL_mem (n := 4) (l := l) (by rw [gd_eq h1]; exact List.getElem_mem h1))]; exact h3⟩
  by_cases c : ∃ i, i < (pcL l 4).length ∧ atB n x y (gd (pcL l 4) i) = true
  · obtain ⟨i, hi, h⟩ := c
    have hk := numR_lt (clsL_rt l) (i := i) (m := (pcL l 4).length) (by rw [clsL_len]; exact hi) hi
    rw [findL_at hi h, idxI_at (i := numR (clsL l) i) (by rw [netL_len]; exact hk) ((hnet _ hk).2 ⟨i, hi, rfl, h⟩) fun j hj => ?_]
    cases hb : (gd (netL l) j).any (atR n x y) with
    | false => rfl
    | true =>
      obtain ⟨m, h1, h2, h3⟩ := (hnet j (by have : cntR (clsL l) (pcL l 4).length = netN l := rfl
                                            omega)).1 hb
      have := atB_uniq h1 hi h3 h
      subst this; omega
  · have h : ∀ i, i < (pcL l 4).length → atB n x y (gd (pcL l 4) i) = false := fun i hi => by
      cases hb : atB n x y (gd (pcL l 4) i) with
      | false => rfl
      | true => exact absurd ⟨i, hi, hb⟩ c
    rw [findL_none h]
    exact idxI_none fun k hk => by
      rw [netL_len] at hk
      cases hb : (gd (netL l) k).any (atR n x y) with
      | false => rfl
      | true =>
        obtain ⟨m, h1, h2, h3⟩ := (hnet k hk).1 hb
        rw [h m h1] at h3; cases h3
end Go.Proofs.YtmomfgfmnpblpaaGreat
namespace Go.Proofs.YtmomfgfmnpblpaaGreat
set_option linter.unusedVariables false
set_option linter.unusedSimpArgs false
open Go
set_option maxRecDepth 20000
set_option linter.unusedSimpArgs false
variable {G : Gh} {L : List Ch} {R : Value → Gh → List Ch → Prop}
noncomputable def netE (l : List (List Rect)) : Int := bif isLay l then (if 24 < netN l then 3 else 0) else 1
noncomputable def netR (l : List (List Rect)) : List (List (Int × List Rect)) := if netE l = 0 then netL l else []
theorem nets_i {v : Value} {xs : List (Sl Rect)} (h1 : Rs G L slT v xs) (hd : RsE G L rectT xs) (k : ∀ v' zs, (er (nps zs)).map erPs = netR (er xs) → R (.tuple #[v', vi (netE (er xs))]) G (osl 140 netT v' zs :: bagS 143 pieceT (nps zs) :: bagS 61 rectT (regs (er (nps zs)).flatten) :: L)) : CallT Tryz.prog 55 #[v] G L R := by
  refine CallT.enter (args := _) Tryz.func55 rfl rfl (by kernel_rfl) rfl ?_
  refine WP.seq ?_
  refine WP.region ?_
  refine RG.pv rfl (PV.asg rfl rfl) ?_
  refine RG.pv rfl (PV.mvI (.inr rfl) rfl) ?_
  refine RG.nil ?_
  refine WP.seq ?_
  refine WP.seq ?_
  refine WP.region ?_
  refine RG.pv rfl (PV.move (v := v) rfl rfl) ?_
  refine RG.callF (vs := [v]) rfl rfl En53 rfl (isLayout_s (Rs.up h1) hd.up ?_)
  refine RG.pv rfl (PV.not rfl rfl) ?_
  refine RG.nil ?_
  refine WP.cond rfl (fun h2 => ?_) (fun h2 => ?_)
  · have h3 : isLay (er xs) = false := by simpa using h2
    have e : netE (er xs) = 1 := by rw [netE, h3]; rfl
    have e2 : netR (er xs) = [] := by rw [netR, e]; rfl
    rw [e, e2] at k
    refine WP.seq ?_
    refine WP.region ?_
    refine RG.pv rfl (PV.asg rfl rfl) ?_
    refine RG.pv rfl (PV.mvI (.inr rfl) rfl) ?_
    refine RG.nil ?_
    refine WP.ret ?_
    exact ⟨_, _, ResV.two rfl rfl rfl, (Cv.nilS.trans (Cv.cons ((Cv.bag0 (e := 61) (F := rectT) (xs := regs []) rfl).trans (Cv.bag0 (e := 143) (F := pieceT) (xs := nps []) rfl)))), k _ [] rfl⟩
  · have h3 : isLay (er xs) = true := by simpa using h2
    refine WP.skip ?_
    refine WP.seq ?_
    refine WP.region ?_
    refine RG.pv rfl (PV.move (v := v) rfl rfl) ?_
    refine RG.callF (vs := [v]) rfl rfl En97 rfl (netsOf_s (Rs.up h1) hd.up h3 (fun v9 zsv9 hev9 => ?_))
    refine RG.pv rfl (PV.asg (v := v9) rfl rfl) ?_
    refine RG.nil ?_
    refine WP.seq ?_
    refine WP.seq ?_
    refine WP.region ?_
    refine RG.pv rfl (PV.move (v := v9) rfl rfl) ?_
    refine RG.pv rfl (PV.len (v := v9) rfl Tryz.underlying86 rfl SlF.o) ?_
    refine RG.pv rfl (PV.gtr rfl rfl rfl) ?_
    refine RG.nil ?_
    have hzl : zsv9.length = netN (er xs) := by
      have := congrArg List.length hev9
      rwa [List.length_map, er_len, nps_len, netL_len] at this
    refine WP.cond rfl (fun h4 => ?_) (fun h4 => ?_)
    · have h4 := of_decide_eq_true h4
      have e : netE (er xs) = 3 := by rw [netE, h3, cond_true, if_pos (by omega)]
      have e2 : netR (er xs) = [] := by rw [netR, e]; rfl
      rw [e, e2] at k
      refine WP.seq ?_
      refine WP.region ?_
      refine RG.pv rfl (PV.asg rfl rfl) ?_
      refine RG.pv rfl (PV.mvI (.inr rfl) rfl) ?_
      refine RG.nil ?_
      refine WP.ret ?_
      exact ⟨_, _, ResV.two rfl rfl rfl, ((Cv.p (C := L)).trans (Cv.nilS.trans (Cv.cons ((Cv.bag0 (e := 61) (F := rectT) (xs := regs []) rfl).trans (Cv.bag0 (e := 143) (F := pieceT) (xs := nps []) rfl))))), k _ [] rfl⟩
    · have h4 := of_decide_eq_false h4
      have e : netE (er xs) = 0 := by rw [netE, h3, cond_true, if_neg (by omega)]
      have e2 : netR (er xs) = netL (er xs) := by rw [netR, e]; rfl
      rw [e, e2] at k
      refine WP.skip ?_
      refine WP.seq ?_
      refine WP.region ?_
      refine RG.pv rfl (PV.move (v := v9) rfl rfl) ?_
      refine RG.pv rfl (PV.asg (v := v9) rfl rfl) ?_
      refine RG.pv rfl (PV.mvI (.inr rfl) rfl) ?_
      refine RG.nil ?_
      refine WP.ret ?_
      exact ⟨_, _, ResV.two rfl rfl rfl, Cv.p, k v9 zsv9 hev9⟩
theorem rHas_s {r : Rect} {x y : Int} (k : R (.bool (rHas r x y)) G L) : CallT Tryz.prog 149 #[vrect r, vi x, vi y] G L R := by
  refine CallT.enter (args := _) Tryz.func149 rfl rfl (by kernel_rfl) rfl ?_
  refine WP.seq ?_
  refine WP.region ?_
  refine RG.ot rfl (OT.box (cs := rectT.enc r) rfl rfl rfl fun b3 => ?_)
  refine RG.pv rfl (PV.mvB (.inr rfl) rfl) ?_
  refine RG.nil ?_
  refine WP.seq ?_
  refine WP.region ?_
  refine RG.pv rfl (PV.loadW rfl Ag61 rfl rfl) ?_
  refine RG.callF (vs := [_]) rfl rfl En181 rfl (validRect_s ?_)
  refine RG.pv rfl (PV.mvB (.inl rfl) rfl) ?_
  refine RG.gs rfl rfl rfl (fun hp => (PV.field rfl Fo61_0 rfl)) ?_
  refine RG.gs rfl rfl rfl (fun hp => (PV.load1 rfl Sc2 (gs_t hp) (Rd.blk rfl))) ?_
  refine RG.gs rfl rfl rfl (fun hp => (PV.mvI (.inl rfl) rfl)) ?_
  refine RG.gs rfl rfl rfl (fun hp => (PV.leq rfl (gs_t hp) (gs_t hp))) ?_
  refine RG.pv rfl (PV.pickA rfl rfl (fun hq => gs_t (geqT hq)) rfl) ?_
  refine RG.pv rfl (PV.mvB (.inl rfl) rfl) ?_
  refine RG.gs rfl rfl rfl (fun hp => (PV.mvI (.inl rfl) rfl)) ?_
  refine RG.gs rfl rfl rfl (fun hp => (PV.field rfl Fo61_2 rfl)) ?_
  refine RG.gs rfl rfl rfl (fun hp => (PV.load1 rfl Sc2 (gs_t hp) (Rd.blk rfl))) ?_
  refine RG.gs rfl rfl rfl (fun hp => (PV.lss rfl (gs_t hp) (gs_t hp))) ?_
  refine RG.pv rfl (PV.pickA rfl rfl (fun hq => gs_t (geqT hq)) rfl) ?_
  refine RG.pv rfl (PV.mvB (.inl rfl) rfl) ?_
  refine RG.gs rfl rfl rfl (fun hp => (PV.field rfl Fo61_1 rfl)) ?_
  refine RG.gs rfl rfl rfl (fun hp => (PV.load1 rfl Sc2 (gs_t hp) (Rd.blk rfl))) ?_
  refine RG.gs rfl rfl rfl (fun hp => (PV.mvI (.inl rfl) rfl)) ?_
  refine RG.gs rfl rfl rfl (fun hp => (PV.leq rfl (gs_t hp) (gs_t hp))) ?_
  refine RG.pv rfl (PV.pickA rfl rfl (fun hq => gs_t (geqT hq)) rfl) ?_
  refine RG.pv rfl (PV.mvB (.inl rfl) rfl) ?_
  refine RG.gs rfl rfl rfl (fun hp => (PV.mvI (.inl rfl) rfl)) ?_
  refine RG.gs rfl rfl rfl (fun hp => (PV.field rfl Fo61_3 rfl)) ?_
  refine RG.gs rfl rfl rfl (fun hp => (PV.load1 rfl Sc2 (gs_t hp) (Rd.blk rfl))) ?_
  refine RG.gs rfl rfl rfl (fun hp => (PV.lss rfl (gs_t hp) (gs_t hp))) ?_
  refine RG.pv rfl (PV.pickA rfl rfl (fun hq => gs_t (geqT hq)) rfl) ?_
  refine RG.pv rfl (PV.mvB (.inr rfl) rfl) ?_
  refine RG.nil ?_
  refine WP.ret ?_
  exact ⟨_, _, ResV.one rfl rfl, Cv.p, k⟩
theorem contains1_s {r : Rect} {b : Nat} {p : Pt} (hc : RdN G L b (ptT.enc p)) (k : R (.bool (rHas r p.x p.y)) G L) : CallT Tryz.prog 148 #[vrect r, .pointer (some ⟨b, 0, none⟩)] G L R := by
  refine CallT.enter (args := _) Tryz.func148 rfl rfl (by kernel_rfl) rfl ?_
  refine WP.seq ?_
  refine WP.region ?_
  refine RG.ot rfl (OT.box (cs := rectT.enc r) rfl rfl rfl fun b2 => ?_)
  refine RG.pv rfl (PV.mvB (.inr rfl) rfl) ?_
  refine RG.nil ?_
  refine WP.seq ?_
  refine WP.region ?_
  refine RG.pv rfl (PV.loadW rfl Ag61 rfl rfl) ?_
  refine RG.pv rfl (PV.field rfl Fo49_0 rfl) ?_
  refine RG.pv rfl (PV.load1 rfl Sc2 rfl ((RdN.up hc) 0 _ rfl)) ?_
  refine RG.pv rfl (PV.field rfl Fo49_1 rfl) ?_
  refine RG.pv rfl (PV.load1 rfl Sc2 rfl ((RdN.up hc) 1 _ rfl)) ?_
  refine RG.callF (vs := [_, _, _]) rfl rfl En149 rfl (rHas_s ?_)
  refine RG.pv rfl (PV.mvB (.inr rfl) rfl) ?_
  refine RG.nil ?_
  refine WP.ret ?_
  exact ⟨_, _, ResV.one rfl rfl, Cv.p, k⟩
theorem indexF_rect {v fv : Value} {xs : List (Rect)} {p : (Rect) → Bool} (h1 : Rs G L rectT v xs) (hf : ∀ i, i < xs.length → CB Tryz.prog G L fv [vrect (gd xs i)] (.bool (p (gd xs i)))) (k : R (vi (idxI p xs)) G L) : CallT Tryz.prog 191 #[v, fv] G L R := by
  refine CallT.bd h1 fun hb => ?_
  refine CallT.enter (args := _) Tryz.func191 rfl rfl (by kernel_rfl) rfl ?_
  refine WP.seq ?_
  refine WP.region ?_
  refine RG.pv rfl (PV.mvI (.inr rfl) rfl) ?_
  refine RG.nil ?_
  refine WP.seq ?_
  refine WP.seq ?_
  refine WP.region ?_
  refine RG.pv rfl (PV.move (v := v) rfl rfl) ?_
  refine RG.pv rfl (PV.len (v := v) rfl Tryz.underlying56 rfl (SlF.r h1)) ?_
  refine RG.pv rfl (PV.mvI (.inl rfl) rfl) ?_
  refine RG.nil ?_
  refine WP.block ?_
  refine WP.loop1 [0, 1, 7] (fun i => i ≤ xs.length ∧ ∀ j, j < i → p (gd xs j) = false) (fun i => [(8, vi i)]) (fun i => L) (fun i => xs.length - i) 0 ⟨by omega, fun j h => by omega⟩ ⟨rfl, trivial⟩ Cv.p ?_
  rintro i τ ⟨hi, hj⟩
  refine WP.seq ?_
  refine WP.region ?_
  refine RG.pv rfl (PV.lss rfl rfl rfl) ?_
  refine RG.nil ?_
  refine WP.seq ?_
  refine WP.cond rfl (fun h2 => ?_) (fun h2 => ?_)
  · have h2 := of_decide_eq_true h2
    refine WP.skip ?_
    refine WP.seq ?_
    refine WP.block ?_
    refine WP.seq ?_
    refine WP.region ?_
    refine RG.pv rfl (PV.mvI (.inl rfl) rfl) ?_
    refine RG.pv rfl (PV.mvI (.inr rfl) rfl) ?_
    refine RG.nil ?_
    refine WP.seq ?_
    refine WP.region ?_
    refine RG.pv rfl (PV.move (v := fv) rfl rfl) ?_
    refine RG.pv rfl (PV.move (v := v) rfl rfl) ?_
    refine RG.pv rfl (PV.mvI (.inl rfl) rfl) ?_
    refine RG.pv rfl (PV.idxS (v := v) rfl Is56 rfl (SlF.r h1) rfl rfl (by omega)) ?_
    refine RG.pv rfl (PV.loadE rfl Ag61 rfl rfl (El.r h1 (getG (by omega)))) ?_
    refine RG.callB (vs := [_]) rfl rfl rfl rfl (CB.up (hf i (by omega))) ?_
    refine RG.nil ?_
    refine WP.cond rfl (fun h3 => ?_) (fun h3 => ?_)
    · rw [idxI_at (by omega) h3 hj] at k
      refine WP.seq ?_
      refine WP.region ?_
      refine RG.pv rfl (PV.mvI (.inl rfl) rfl) ?_
      refine RG.pv rfl (PV.mvI (.inr rfl) rfl) ?_
      refine RG.nil ?_
      refine WP.ret ?_
      exact ⟨_, _, ResV.one rfl rfl, Cv.p, k⟩
    · have hj' : ∀ j, j < i + 1 → p (gd xs j) = false := fun j h => by
        by_cases c : j = i
        · rw [c]; exact h3
        · exact hj j (by omega)
      refine WP.skip ?_
      refine WP.region ?_
      refine RG.pv rfl (PV.add rfl rfl rfl (by omega)) ?_
      refine RG.pv rfl (PV.mvI (.inl rfl) rfl) ?_
      refine RG.nil ?_
      exact ⟨rfl, i + 1, ⟨by omega, hj'⟩, ⟨rfl, trivial⟩, ⟨rfl, rfl, rfl, trivial⟩, Cv.p, by omega⟩
  · have h2 := of_decide_eq_false h2
    rw [idxI_none (fun j h => hj j (by omega))] at k
    refine WP.exit ?_
    refine WP.seq ?_
    refine WP.region ?_
    refine RG.pv rfl (PV.mvI (.inr rfl) rfl) ?_
    refine RG.nil ?_
    refine WP.ret ?_
    exact ⟨_, _, ResV.one rfl rfl, Cv.p, k⟩
theorem containsF_rect {v fv : Value} {xs : List (Rect)} {p : (Rect) → Bool} (h1 : Rs G L rectT v xs) (hf : ∀ i, i < xs.length → CB Tryz.prog G L fv [vrect (gd xs i)] (.bool (p (gd xs i)))) (k : R (.bool (xs.any p)) G L) : CallT Tryz.prog 147 #[v, fv] G L R := by
  rw [← idxI_any] at k
  refine CallT.enter (args := _) Tryz.func147 rfl rfl (by kernel_rfl) rfl ?_
  refine WP.seq ?_
  refine WP.region ?_
  refine RG.pv rfl (PV.mvB (.inr rfl) rfl) ?_
  refine RG.nil ?_
  refine WP.seq ?_
  refine WP.region ?_
  refine RG.pv rfl (PV.move (v := v) rfl rfl) ?_
  refine RG.pv rfl (PV.move (v := fv) rfl rfl) ?_
  refine RG.callF (vs := [v, fv]) rfl rfl En191 rfl (indexF_rect (Rs.up h1) (fun i hi => (hf i hi).up) ?_)
  refine RG.pv rfl (PV.geq rfl rfl rfl) ?_
  refine RG.pv rfl (PV.mvB (.inr rfl) rfl) ?_
  refine RG.nil ?_
  refine WP.ret ?_
  exact ⟨_, _, ResV.one rfl rfl, Cv.p, k⟩
theorem indexF_piece {v fv : Value} {xs : List (Piece)} {p : (Piece) → Bool} (h1 : Rs G L pieceT v xs) (hf : ∀ i, i < xs.length → CB Tryz.prog G L fv [vT pieceT (gd xs i)] (.bool (p (gd xs i)))) (k : R (vi (idxI p xs)) G L) : CallT Tryz.prog 146 #[v, fv] G L R := by
  refine CallT.bd h1 fun hb => ?_
  refine CallT.enter (args := _) Tryz.func146 rfl rfl (by kernel_rfl) rfl ?_
  refine WP.seq ?_
  refine WP.region ?_
  refine RG.pv rfl (PV.mvI (.inr rfl) rfl) ?_
  refine RG.nil ?_
  refine WP.seq ?_
  refine WP.seq ?_
  refine WP.region ?_
  refine RG.pv rfl (PV.move (v := v) rfl rfl) ?_
  refine RG.pv rfl (PV.len (v := v) rfl Tryz.underlying138 rfl (SlF.r h1)) ?_
  refine RG.pv rfl (PV.mvI (.inl rfl) rfl) ?_
  refine RG.nil ?_
  refine WP.block ?_
  refine WP.loop1 [0, 1, 7] (fun i => i ≤ xs.length ∧ ∀ j, j < i → p (gd xs j) = false) (fun i => [(8, vi i)]) (fun i => L) (fun i => xs.length - i) 0 ⟨by omega, fun j h => by omega⟩ ⟨rfl, trivial⟩ Cv.p ?_
  rintro i τ ⟨hi, hj⟩
  refine WP.seq ?_
  refine WP.region ?_
  refine RG.pv rfl (PV.lss rfl rfl rfl) ?_
  refine RG.nil ?_
  refine WP.seq ?_
  refine WP.cond rfl (fun h2 => ?_) (fun h2 => ?_)
  · have h2 := of_decide_eq_true h2
    refine WP.skip ?_
    refine WP.seq ?_
    refine WP.block ?_
    refine WP.seq ?_
    refine WP.region ?_
    refine RG.pv rfl (PV.mvI (.inl rfl) rfl) ?_
    refine RG.pv rfl (PV.mvI (.inr rfl) rfl) ?_
    refine RG.nil ?_
    refine WP.seq ?_
    refine WP.region ?_
    refine RG.pv rfl (PV.move (v := fv) rfl rfl) ?_
    refine RG.pv rfl (PV.move (v := v) rfl rfl) ?_
    refine RG.pv rfl (PV.mvI (.inl rfl) rfl) ?_
    refine RG.pv rfl (PV.idxS (v := v) rfl Is138 rfl (SlF.r h1) rfl rfl (by omega)) ?_
    refine RG.pv rfl (PV.loadE rfl Ag143 rfl rfl (El.r h1 (getG (by omega)))) ?_
    refine RG.callB (vs := [_]) rfl rfl rfl rfl (CB.up (hf i (by omega))) ?_
    refine RG.nil ?_
    refine WP.cond rfl (fun h3 => ?_) (fun h3 => ?_)
    · rw [idxI_at (by omega) h3 hj] at k
      refine WP.seq ?_
      refine WP.region ?_
      refine RG.pv rfl (PV.mvI (.inl rfl) rfl) ?_
      refine RG.pv rfl (PV.mvI (.inr rfl) rfl) ?_
      refine RG.nil ?_
      refine WP.ret ?_
      exact ⟨_, _, ResV.one rfl rfl, Cv.p, k⟩
    · have hj' : ∀ j, j < i + 1 → p (gd xs j) = false := fun j h => by
        by_cases c : j = i
        · rw [c]; exact h3
        · exact hj j (by omega)
      refine WP.skip ?_
      refine WP.region ?_
      refine RG.pv rfl (PV.add rfl rfl rfl (by omega)) ?_
      refine RG.pv rfl (PV.mvI (.inl rfl) rfl) ?_
      refine RG.nil ?_
      exact ⟨rfl, i + 1, ⟨by omega, hj'⟩, ⟨rfl, trivial⟩, ⟨rfl, rfl, rfl, trivial⟩, Cv.p, by omega⟩
  · have h2 := of_decide_eq_false h2
    rw [idxI_none (fun j h => hj j (by omega))] at k
    refine WP.exit ?_
    refine WP.seq ?_
    refine WP.region ?_
    refine RG.pv rfl (PV.mvI (.inr rfl) rfl) ?_
    refine RG.nil ?_
    refine WP.ret ?_
    exact ⟨_, _, ResV.one rfl rfl, Cv.p, k⟩
theorem containsF_piece {v fv : Value} {xs : List (Piece)} {p : (Piece) → Bool} (h1 : Rs G L pieceT v xs) (hf : ∀ i, i < xs.length → CB Tryz.prog G L fv [vT pieceT (gd xs i)] (.bool (p (gd xs i)))) (k : R (.bool (xs.any p)) G L) : CallT Tryz.prog 100 #[v, fv] G L R := by
  rw [← idxI_any] at k
  refine CallT.enter (args := _) Tryz.func100 rfl rfl (by kernel_rfl) rfl ?_
  refine WP.seq ?_
  refine WP.region ?_
  refine RG.pv rfl (PV.mvB (.inr rfl) rfl) ?_
  refine RG.nil ?_
  refine WP.seq ?_
  refine WP.region ?_
  refine RG.pv rfl (PV.move (v := v) rfl rfl) ?_
  refine RG.pv rfl (PV.move (v := fv) rfl rfl) ?_
  refine RG.callF (vs := [v, fv]) rfl rfl En146 rfl (indexF_piece (Rs.up h1) (fun i hi => (hf i hi).up) ?_)
  refine RG.pv rfl (PV.geq rfl rfl rfl) ?_
  refine RG.pv rfl (PV.mvB (.inr rfl) rfl) ?_
  refine RG.nil ?_
  refine WP.ret ?_
  exact ⟨_, _, ResV.one rfl rfl, Cv.p, k⟩
theorem indexF_net {v fv : Value} {xs : List (Net)} {p : (Net) → Bool} (h1 : Rs G L netT v xs) (hf : ∀ i, i < xs.length → CB Tryz.prog G L fv [vT netT (gd xs i)] (.bool (p (gd xs i)))) (k : R (vi (idxI p xs)) G L) : CallT Tryz.prog 98 #[v, fv] G L R := by
  refine CallT.bd h1 fun hb => ?_
  refine CallT.enter (args := _) Tryz.func98 rfl rfl (by kernel_rfl) rfl ?_
  refine WP.seq ?_
  refine WP.region ?_
  refine RG.pv rfl (PV.mvI (.inr rfl) rfl) ?_
  refine RG.nil ?_
  refine WP.seq ?_
  refine WP.seq ?_
  refine WP.region ?_
  refine RG.pv rfl (PV.move (v := v) rfl rfl) ?_
  refine RG.pv rfl (PV.len (v := v) rfl Tryz.underlying86 rfl (SlF.r h1)) ?_
  refine RG.pv rfl (PV.mvI (.inl rfl) rfl) ?_
  refine RG.nil ?_
  refine WP.block ?_
  refine WP.loop1 [0, 1, 7] (fun i => i ≤ xs.length ∧ ∀ j, j < i → p (gd xs j) = false) (fun i => [(8, vi i)]) (fun i => L) (fun i => xs.length - i) 0 ⟨by omega, fun j h => by omega⟩ ⟨rfl, trivial⟩ Cv.p ?_
  rintro i τ ⟨hi, hj⟩
  refine WP.seq ?_
  refine WP.region ?_
  refine RG.pv rfl (PV.lss rfl rfl rfl) ?_
  refine RG.nil ?_
  refine WP.seq ?_
  refine WP.cond rfl (fun h2 => ?_) (fun h2 => ?_)
  · have h2 := of_decide_eq_true h2
    refine WP.skip ?_
    refine WP.seq ?_
    refine WP.block ?_
    refine WP.seq ?_
    refine WP.region ?_
    refine RG.pv rfl (PV.mvI (.inl rfl) rfl) ?_
    refine RG.pv rfl (PV.mvI (.inr rfl) rfl) ?_
    refine RG.nil ?_
    refine WP.seq ?_
    refine WP.region ?_
    refine RG.pv rfl (PV.move (v := fv) rfl rfl) ?_
    refine RG.pv rfl (PV.move (v := v) rfl rfl) ?_
    refine RG.pv rfl (PV.mvI (.inl rfl) rfl) ?_
    refine RG.pv rfl (PV.idxS (v := v) rfl Is86 rfl (SlF.r h1) rfl rfl (by omega)) ?_
    refine RG.pv rfl (PV.loadE rfl Ag140 rfl rfl (El.r h1 (getG (by omega)))) ?_
    refine RG.callB (vs := [_]) rfl rfl rfl rfl (CB.up (hf i (by omega))) ?_
    refine RG.nil ?_
    refine WP.cond rfl (fun h3 => ?_) (fun h3 => ?_)
    · rw [idxI_at (by omega) h3 hj] at k
      refine WP.seq ?_
      refine WP.region ?_
      refine RG.pv rfl (PV.mvI (.inl rfl) rfl) ?_
      refine RG.pv rfl (PV.mvI (.inr rfl) rfl) ?_
      refine RG.nil ?_
      refine WP.ret ?_
      exact ⟨_, _, ResV.one rfl rfl, Cv.p, k⟩
    · have hj' : ∀ j, j < i + 1 → p (gd xs j) = false := fun j h => by
        by_cases c : j = i
        · rw [c]; exact h3
        · exact hj j (by omega)
      refine WP.skip ?_
      refine WP.region ?_
      refine RG.pv rfl (PV.add rfl rfl rfl (by omega)) ?_
      refine RG.pv rfl (PV.mvI (.inl rfl) rfl) ?_
      refine RG.nil ?_
      exact ⟨rfl, i + 1, ⟨by omega, hj'⟩, ⟨rfl, trivial⟩, ⟨rfl, rfl, rfl, trivial⟩, Cv.p, by omega⟩
  · have h2 := of_decide_eq_false h2
    rw [idxI_none (fun j h => hj j (by omega))] at k
    refine WP.exit ?_
    refine WP.seq ?_
    refine WP.region ?_
    refine RG.pv rfl (PV.mvI (.inr rfl) rfl) ?_
    refine RG.nil ?_
    refine WP.ret ?_
    exact ⟨_, _, ResV.one rfl rfl, Cv.p, k⟩
theorem contains_s {v : Value} {xs : List Rect} {p : Pt} (h1 : Rs G L rectT v xs) (k : R (.bool (xs.any fun r => rHas r p.x p.y)) G L) : CallT Tryz.prog 102 #[v, vpt p] G L R := by
  refine CallT.enter (args := _) Tryz.func102 rfl rfl (by kernel_rfl) rfl ?_
  refine WP.seq ?_
  refine WP.region ?_
  refine RG.ot rfl (OT.box (cs := ptT.enc p) rfl rfl rfl fun b3 => ?_)
  refine RG.pv rfl (PV.mvB (.inr rfl) rfl) ?_
  refine RG.nil ?_
  refine WP.seq ?_
  refine WP.region ?_
  refine RG.pv rfl (PV.move (v := v) rfl rfl) ?_
  refine RG.pv rfl (PV.mkf1 rfl rfl) ?_
  refine RG.callF (vs := [v, _]) rfl rfl En147 rfl (containsF_rect (Rs.up h1) (p := fun r => rHas r p.x p.y) (fun i hi => CB.mk1 En148 fun L' R c k => contains1_s (RdN.cv RdN.blk c) k) ?_)
  refine RG.pv rfl (PV.mvB (.inr rfl) rfl) ?_
  refine RG.nil ?_
  refine WP.ret ?_
  exact ⟨_, _, ResV.one rfl rfl, Cv.p, k⟩
theorem netAt11_s {p : Piece} {b c : Nat} {n : Int} {q : Pt} (hr : Rs G L rectT p.reg.v p.reg.xs) (hb : Rd G L b 0 (vi n)) (hc : RdN G L c (ptT.enc q)) (k : R (.bool (atR n q.x q.y (erP p))) G L) : CallT Tryz.prog 101 #[vT pieceT p, .pointer (some ⟨b, 0, none⟩), .pointer (some ⟨c, 0, none⟩)] G L R := by
  refine CallT.enter (args := _) Tryz.func101 rfl rfl (by kernel_rfl) rfl ?_
  refine WP.seq ?_
  refine WP.region ?_
  refine RG.ot rfl (OT.box (cs := pieceT.enc p) rfl rfl rfl fun b3 => ?_)
  refine RG.pv rfl (PV.mvB (.inr rfl) rfl) ?_
  refine RG.nil ?_
  refine WP.seq ?_
  refine WP.region ?_
  refine RG.pv rfl (PV.field rfl Fo143_0 rfl) ?_
  refine RG.pv rfl (PV.load1 rfl Sc2 rfl (Rd.blk rfl)) ?_
  refine RG.pv rfl (PV.load1 rfl Sc2 rfl (Rd.up hb)) ?_
  refine RG.pv rfl (PV.eql rfl rfl rfl) ?_
  refine RG.pv rfl (PV.mvB (.inl rfl) rfl) ?_
  refine RG.gs rfl rfl rfl (fun hp => (PV.field rfl Fo143_1 rfl)) ?_
  refine RG.gs rfl rfl rfl (fun hp => (PV.load1 rfl Sc56 (gs_t hp) (Rd.blk rfl))) ?_
  refine RG.gs rfl rfl rfl (fun hp => (PV.loadA rfl Ag49 rfl rfl (RdN.up hc))) ?_
  refine RG.gsC rfl rfl rfl rfl En102 (fun hp => ⟨_, (acons (gs_t hp) (acons (gs_t hp) anil)), contains_s (Rs.up hr) ⟨rfl, rfl, rfl⟩⟩) ?_
  refine RG.pv rfl (PV.pickA rfl rfl (fun hq => gs_t (geqT hq)) rfl) ?_
  refine RG.pv rfl (PV.mvB (.inr rfl) rfl) ?_
  refine RG.nil ?_
  refine WP.ret ?_
  exact ⟨_, _, ResV.one rfl rfl, Cv.p, k⟩
theorem netAt1_s {z : Net} {b c : Nat} {n : Int} {q : Pt} (hp : Rs G L pieceT z.pieces.v z.pieces.xs) (hr : ∀ i, i < z.pieces.xs.length → Rs G L rectT (gd z.pieces.xs i).reg.v (gd z.pieces.xs i).reg.xs) (hb : Rd G L b 0 (vi n)) (hc : RdN G L c (ptT.enc q)) (k : R (.bool ((erPs z.pieces.xs).any (atR n q.x q.y))) G L) : CallT Tryz.prog 99 #[vT netT z, .pointer (some ⟨b, 0, none⟩), .pointer (some ⟨c, 0, none⟩)] G L R := by
  rw [erPs, List.any_map] at k
  refine CallT.enter (args := _) Tryz.func99 rfl rfl (by kernel_rfl) rfl ?_
  refine WP.seq ?_
  refine WP.region ?_
  refine RG.ot rfl (OT.box (cs := netT.enc z) rfl rfl rfl fun b3 => ?_)
  refine RG.pv rfl (PV.mvB (.inr rfl) rfl) ?_
  refine RG.nil ?_
  refine WP.seq ?_
  refine WP.region ?_
  refine RG.pv rfl (PV.field rfl Fo140_0 rfl) ?_
  refine RG.pv rfl (PV.load1 rfl Sc138 rfl (Rd.blk rfl)) ?_
  refine RG.pv rfl (PV.mkf2 rfl rfl rfl) ?_
  refine RG.callF (vs := [_, _]) rfl rfl En100 rfl (containsF_piece (Rs.up hp) (p := fun r => atR n q.x q.y (erP r)) (fun i hi => CB.mk2 En101 fun L' R e k => netAt11_s ((hr i hi).up.cv e) (Rd.cv hb.up e) (RdN.cv hc.up e) k) ?_)
  refine RG.pv rfl (PV.mvB (.inr rfl) rfl) ?_
  refine RG.nil ?_
  refine WP.ret ?_
  exact ⟨_, _, ResV.one rfl rfl, Cv.p, k⟩
theorem idxI_map {α β : Type} (q : β → Bool) (f : α → β) (xs : List α) : idxI q (xs.map f) = idxI (fun a => q (f a)) xs := by
  simp only [idxI, List.findIdx?_map]; rfl
theorem nps_er (zs : List Net) : (er (nps zs)).map erPs = zs.map fun z => erPs z.pieces.xs := by simp [er, nps, Function.comp_def]
theorem netAt_s {v : Value} {zs : List Net} {n : Int} {q : Pt} (h1 : Rs G L netT v zs) (hp : RsE G L pieceT (nps zs)) (hr : ∀ i, i < zs.length → RsE G L rectT (regs (gd zs i).pieces.xs)) (k : R (vi (idxI (fun net => net.any (atR n q.x q.y)) ((er (nps zs)).map erPs))) G L) : CallT Tryz.prog 56 #[v, vi n, vpt q] G L R := by
  rw [nps_er, idxI_map] at k
  have hp2 : ∀ i, i < zs.length → Rs G L pieceT (gd zs i).pieces.v (gd zs i).pieces.xs := fun i hi => by
    have := hp i (by rw [nps_len]; exact hi); rwa [nps_gd hi] at this
  refine CallT.enter (args := _) Tryz.func56 rfl rfl (by kernel_rfl) rfl ?_
  refine WP.seq ?_
  refine WP.region ?_
  refine RG.ot rfl (OT.box rfl rfl rfl fun b4 => ?_)
  refine RG.ot rfl (OT.box (cs := ptT.enc q) rfl rfl rfl fun b5 => ?_)
  refine RG.pv rfl (PV.mvI (.inr rfl) rfl) ?_
  refine RG.nil ?_
  refine WP.seq ?_
  refine WP.region ?_
  refine RG.pv rfl (PV.move (v := v) rfl rfl) ?_
  refine RG.pv rfl (PV.mkf2 rfl rfl rfl) ?_
  refine RG.callF (vs := [v, _]) rfl rfl En98 rfl (indexF_net (Rs.up h1) (p := fun z => (erPs z.pieces.xs).any (atR n q.x q.y)) (fun i hi => CB.mk2 En99 fun L' R e k => netAt1_s ((hp2 i hi).up.cv e) (fun j hj => ((hr i hi).reg hj).up.cv e) (Rd.cv (Rd.blk rfl) e) (RdN.cv RdN.blk e) k) ?_)
  refine RG.pv rfl (PV.mvI (.inr rfl) rfl) ?_
  refine RG.nil ?_
  refine WP.ret ?_
  exact ⟨_, _, ResV.one rfl rfl, Cv.p, k⟩
/-- all slices of a bag, by membership -/
theorem Rs.mem {α : Type} {G : Gh} {L L' : List Ch} {e : TypeId} {F : FT α} {xs : List (Sl α)} [hX : ExBg xs L e F L'] {s : Sl α} (h : s ∈ xs) : Rs G L F s.v s.xs := by
  obtain ⟨i, hi, rfl⟩ := List.getElem_of_mem h
  have := Rs.inBag (G := G) (L := L) (L' := L') (e := e) (F := F) (xs := xs) i hi
  rwa [gd_eq hi] at this
theorem RsE.flat {G : Gh} {L L' : List Ch} {e : TypeId} {zs : List Net} [hX : ExBg (regs (er (nps zs)).flatten) L e rectT L'] {i : Nat} (hi : i < zs.length) : RsE G L rectT (regs (gd zs i).pieces.xs) := fun j hj => by
  rw [regs_len] at hj
  rw [regs_gd hj]
  refine Rs.mem (L := L) (L' := L') (e := e) (xs := regs (er (nps zs)).flatten) (List.mem_map_of_mem ?_)
  refine List.mem_flatten.2 ⟨(gd zs i).pieces.xs, ?_, gd_mem hj⟩
  rw [← nps_gd hi, ← er_gd]
  exact gd_mem (by rw [er_len, nps_len]; exact hi)
noncomputable def atN (l : List (List Rect)) (n x y : Int) : Int := if netE l = 0 then findL l n x y else -1
theorem netAt_i {v : Value} {xs : List (Sl Rect)} {n : Int} {q : Pt} (h1 : Rs G L slT v xs) (hd : RsE G L rectT xs) (k : R (vi (atN (er xs) n q.x q.y)) G L) : CallT Tryz.prog 26 #[v, vi n, vpt q] G L R := by
  refine CallT.enter (args := _) Tryz.func26 rfl rfl (by kernel_rfl) rfl ?_
  refine WP.seq ?_
  refine WP.region ?_
  refine RG.ot rfl (OT.box (cs := ptT.enc q) rfl rfl rfl fun b5 => ?_)
  refine RG.pv rfl (PV.mvI (.inr rfl) rfl) ?_
  refine RG.nil ?_
  refine WP.seq ?_
  refine WP.region ?_
  refine RG.pv rfl (PV.move (v := v) rfl rfl) ?_
  refine RG.callF (vs := [v]) rfl rfl En55 rfl (nets_i (Rs.up h1) hd.up (fun w11 zsw11 hew11 => ?_))
  refine RG.pv rfl (PV.move (v := .tuple _) rfl rfl) ?_
  refine RG.pv rfl (PV.ext (v := w11) rfl rfl rfl) ?_
  refine RG.pv rfl (PV.ext rfl rfl rfl) ?_
  refine RG.pv rfl (PV.asg (v := w11) rfl rfl) ?_
  refine RG.pv rfl (PV.mvI (.inr rfl) rfl) ?_
  refine RG.nil ?_
  refine WP.seq ?_
  refine WP.seq ?_
  refine WP.region ?_
  refine RG.pv rfl (PV.mvI (.inl rfl) rfl) ?_
  refine RG.pv rfl (PV.neq rfl rfl rfl) ?_
  refine RG.nil ?_
  refine WP.cond rfl (fun h2 => ?_) (fun h2 => ?_)
  · have h3 : netE (er xs) ≠ 0 := by simpa using h2
    rw [atN, if_neg h3] at k
    refine WP.seq ?_
    refine WP.region ?_
    refine RG.pv rfl (PV.mvI (.inr rfl) rfl) ?_
    refine RG.nil ?_
    refine WP.ret ?_
    exact ⟨_, _, ResV.one rfl rfl, Cv.p, k⟩
  · have h3 : netE (er xs) = 0 := by simpa using h2
    have e : (er (nps zsw11)).map erPs = netL (er xs) := by rw [hew11, netR, if_pos h3]
    rw [atN, if_pos h3, ← netAt_eq, ← e] at k
    refine WP.skip ?_
    refine WP.seq ?_
    refine WP.region ?_
    refine RG.pv rfl (PV.move (v := w11) rfl rfl) ?_
    refine RG.pv rfl (PV.mvI (.inl rfl) rfl) ?_
    refine RG.pv rfl (PV.loadW rfl Ag49 rfl rfl) ?_
    refine RG.callF (vs := [w11, _, _]) rfl rfl En56 rfl (netAt_s Rs.o RsE.o (fun i hi => RsE.flat hi) ?_)
    refine RG.pv rfl (PV.mvI (.inr rfl) rfl) ?_
    refine RG.nil ?_
    refine WP.ret ?_
    exact ⟨_, _, ResV.one rfl rfl, Cv.p, k⟩
end Go.Proofs.YtmomfgfmnpblpaaGreat
namespace Go.Proofs.YtmomfgfmnpblpaaGreat
set_option linter.unusedVariables false
set_option linter.unusedSimpArgs false
open Go
set_option linter.unusedSimpArgs false
set_option maxRecDepth 20000
def one (b : Bool) : Int := bif b then 1 else 0
end Go.Proofs.YtmomfgfmnpblpaaGreat
namespace Go.Proofs.YtmomfgfmnpblpaaGreat
set_option linter.unusedVariables false
set_option linter.unusedSimpArgs false
open Go
set_option maxRecDepth 20000
set_option linter.unusedSimpArgs false
variable {G : Gh} {L : List Ch} {R : Value → Gh → List Ch → Prop}
theorem unitCell_s {p : Pt} (k : R (.bool (within p.x (-40) 39 && within p.y (-40) 39)) G L) : CallT Tryz.prog 142 #[vpt p] G L R := by
  refine CallT.enter (args := _) Tryz.func142 rfl rfl (by kernel_rfl) rfl ?_
  refine WP.seq ?_
  refine WP.region ?_
  refine RG.ot rfl (OT.box (cs := ptT.enc p) rfl rfl rfl fun b1 => ?_)
  refine RG.pv rfl (PV.mvB (.inr rfl) rfl) ?_
  refine RG.nil ?_
  refine WP.seq ?_
  refine WP.region ?_
  refine RG.pv rfl (PV.field rfl Fo49_0 rfl) ?_
  refine RG.pv rfl (PV.load1 rfl Sc2 rfl (Rd.blk rfl)) ?_
  refine RG.callF (vs := [_, _, _]) rfl rfl En141 rfl (within_s ?_)
  refine RG.pv rfl (PV.mvB (.inl rfl) rfl) ?_
  refine RG.gs rfl rfl rfl (fun hp => (PV.field rfl Fo49_1 rfl)) ?_
  refine RG.gs rfl rfl rfl (fun hp => (PV.load1 rfl Sc2 (gs_t hp) (Rd.blk rfl))) ?_
  refine RG.gsC rfl rfl rfl rfl En141 (fun hp => ⟨_, (acons (gs_t hp) (acons rfl (acons rfl anil))), within_s ⟨rfl, rfl, rfl⟩⟩) ?_
  refine RG.pv rfl (PV.pickA rfl rfl (fun hq => gs_t (geqT hq)) rfl) ?_
  refine RG.pv rfl (PV.mvB (.inr rfl) rfl) ?_
  refine RG.nil ?_
  refine WP.ret ?_
  exact ⟨_, _, ResV.one rfl rfl, Cv.p, k⟩
end Go.Proofs.YtmomfgfmnpblpaaGreat
namespace Go.Proofs.YtmomfgfmnpblpaaGreat
set_option linter.unusedVariables false
set_option linter.unusedSimpArgs false
open Go
set_option maxRecDepth 20000
set_option linter.unusedSimpArgs false
variable {G : Gh} {L : List Ch} {R : Value → Gh → List Ch → Prop}
theorem netAt_f {v : Value} {l : List (List Rect)} {zs : List Net} {n : Int} {q : Pt} (h1 : Rs G L netT v zs) (hp : RsE G L pieceT (nps zs)) (hr : ∀ i, i < zs.length → RsE G L rectT (regs (gd zs i).pieces.xs)) (he : (er (nps zs)).map erPs = netL l) (k : R (vi (findL l n q.x q.y)) G L) : CallT Tryz.prog 56 #[v, vi n, vpt q] G L R := by
  rw [← netAt_eq, ← he] at k
  exact netAt_s h1 hp hr k
end Go.Proofs.YtmomfgfmnpblpaaGreat
namespace Go.Proofs.YtmomfgfmnpblpaaGreat
set_option linter.unusedVariables false
set_option linter.unusedSimpArgs false
open Go
set_option maxRecDepth 20000
set_option linter.unusedSimpArgs false
variable {G : Gh} {L : List Ch} {R : Value → Gh → List Ch → Prop}
def nameByte (c : UInt8) : Bool := decide (97 ≤ c.toNat) && decide (c.toNat ≤ 122) || decide (48 ≤ c.toNat) && decide (c.toNat ≤ 57)
def isName (s : ByteArray) : Bool := decide (1 ≤ s.size) && decide (s.size ≤ 8) && decide (∀ i, i < s.size → nameByte (bt s i) = true)
theorem isName_all {s : ByteArray} (h : ∀ i, i < s.size → nameByte (bt s i) = true) : isName s = (decide (1 ≤ (s.size : Int)) && decide ((s.size : Int) ≤ 8)) := by
  simp only [isName, decide_eq_true h, Bool.and_true]
  congr 1 <;> (rw [decide_eq_decide]; omega)
theorem isName_not {s : ByteArray} {i : Nat} (h : i < s.size) (e : nameByte (bt s i) = false) : isName s = false := by
  simp only [isName, Bool.and_eq_false_iff, decide_eq_false_iff_not]
  exact .inr fun hh => by rw [hh i h] at e; cases e
theorem isName_i {s : ByteArray} (hs : s.size ≤ 9223372036854775807) (k : R (.bool (isName s)) G L) : CallT Tryz.prog 143 #[.string s] G L R := by
  refine CallT.enter (args := _) Tryz.func143 rfl rfl (by kernel_rfl) rfl ?_
  refine WP.seq ?_
  refine WP.region ?_
  refine RG.pv rfl (PV.mvB (.inr rfl) rfl) ?_
  refine RG.nil ?_
  refine WP.seq ?_
  refine WP.seq ?_
  refine WP.region ?_
  refine RG.pv rfl (PV.mvI (.inr rfl) rfl) ?_
  refine RG.nil ?_
  refine WP.block ?_
  refine WP.loop1 [0] (fun i => i ≤ s.size ∧ ∀ j, j < i → nameByte (bt s j) = true) (fun i => [(3, vi i)]) (fun i => L) (fun i => s.size - i) 0 ⟨by omega, fun j h => by omega⟩ ⟨rfl, trivial⟩ Cv.p ?_
  rintro i τ ⟨hi, hb⟩
  refine WP.seq ?_
  refine WP.seq ?_
  refine WP.region ?_
  refine RG.pv rfl (PV.mvI (.inl rfl) rfl) ?_
  refine RG.pv rfl (PV.mvS (.inl rfl) rfl) ?_
  refine RG.pv rfl (PV.lenS rfl Tryz.underlying9 rfl) ?_
  refine RG.pv rfl (PV.lss rfl rfl rfl) ?_
  refine RG.nil ?_
  refine WP.cond rfl (fun h1 => ?_) (fun h1 => ?_)
  · have h1 := of_decide_eq_true h1
    refine WP.skip ?_
    refine WP.seq ?_
    refine WP.block ?_
    refine WP.seq ?_
    refine WP.region ?_
    refine RG.pv rfl (PV.mvS (.inl rfl) rfl) ?_
    refine RG.pv rfl (PV.mvI (.inl rfl) rfl) ?_
    refine RG.pv rfl (PV.idxStr rfl Tryz.underlying9 rfl rfl rfl (getBG (by omega))) ?_
    refine RG.pv rfl (PV.lss rfl rfl rfl) ?_
    refine RG.pv rfl (PV.mvB (.inl rfl) rfl) ?_
    refine RG.gs rfl rfl rfl (fun hp => (PV.mvS (.inl rfl) rfl)) ?_
    refine RG.gs rfl rfl rfl (fun hp => (PV.mvI (.inl rfl) rfl)) ?_
    refine RG.gs rfl rfl rfl (fun hp => (PV.idxStr rfl Tryz.underlying9 (gs_t hp) (gs_t hp) rfl (getBG (by first | omega | (simp at hp; omega))))) ?_
    refine RG.gs rfl rfl rfl (fun hp => (PV.gtr rfl (gs_t hp) rfl)) ?_
    refine RG.pv rfl (PV.pickO rfl rfl rfl (fun hq => gs_t (geqF hq))) ?_
    refine RG.pv rfl (PV.mvB (.inl rfl) rfl) ?_
    refine RG.gs rfl rfl rfl (fun hp => (PV.mvS (.inl rfl) rfl)) ?_
    refine RG.gs rfl rfl rfl (fun hp => (PV.mvI (.inl rfl) rfl)) ?_
    refine RG.gs rfl rfl rfl (fun hp => (PV.idxStr rfl Tryz.underlying9 (gs_t hp) (gs_t hp) rfl (getBG (by first | omega | (simp at hp; omega))))) ?_
    refine RG.gs rfl rfl rfl (fun hp => (PV.lss rfl (gs_t hp) rfl)) ?_
    refine RG.gs rfl rfl rfl (fun hp => (PV.mvB (.inl rfl) (gs_t hp))) ?_
    refine RG.gs2 rfl rfl rfl (fun hp => (PV.mvS (.inl rfl) rfl)) ?_
    refine RG.gs2 rfl rfl rfl (fun hp => (PV.mvI (.inl rfl) rfl)) ?_
    refine RG.gs2 rfl rfl rfl (fun hp => (PV.idxStr rfl Tryz.underlying9 (gs_t hp) (gs_t hp) rfl (getBG (by first | omega | (simp at hp; omega))))) ?_
    refine RG.gs2 rfl rfl rfl (fun hp => (PV.gtr rfl (gs_t hp) rfl)) ?_
    refine RG.gs rfl rfl rfl (fun hp => (PV.pickO rfl (gs_t hp) rfl (fun hq => gs_t (gandF hp hq)))) ?_
    refine RG.pv rfl (PV.pickA rfl rfl (fun hq => gs_t (geqT hq)) rfl) ?_
    refine RG.nil ?_
    refine WP.cond rfl (fun h2 => ?_) (fun h2 => ?_)
    · have e : isName s = false := isName_not (i := i) (by omega) (by simp [nameByte] at h2 ⊢; omega)
      rw [e] at k
      refine WP.seq ?_
      refine WP.region ?_
      refine RG.pv rfl (PV.mvB (.inr rfl) rfl) ?_
      refine RG.nil ?_
      refine WP.ret ?_
      exact ⟨_, _, ResV.one rfl rfl, Cv.p, k⟩
    · have h3 : nameByte (bt s i) = true := by
        simp [nameByte] at h2 ⊢; omega
      have hj : ∀ j, j < i + 1 → nameByte (bt s j) = true := fun j h => by
        by_cases e : j = i
        · subst e; exact h3
        · exact hb j (by omega)
      refine WP.skip ?_
      refine WP.region ?_
      refine RG.pv rfl (PV.mvI (.inl rfl) rfl) ?_
      refine RG.pv rfl (PV.add rfl rfl rfl (by omega)) ?_
      refine RG.pv rfl (PV.mvI (.inr rfl) rfl) ?_
      refine RG.nil ?_
      exact ⟨rfl, i + 1, ⟨by omega, hj⟩, ⟨rfl, trivial⟩, ⟨rfl, trivial⟩, Cv.p, by omega⟩
  · have h1 := of_decide_eq_false h1
    have e := isName_all (s := s) (fun j h => hb j (by omega))
    rw [e] at k
    refine WP.exit ?_
    refine WP.seq ?_
    refine WP.region ?_
    refine RG.pv rfl (PV.mvS (.inl rfl) rfl) ?_
    refine RG.pv rfl (PV.lenS rfl Tryz.underlying9 rfl) ?_
    refine RG.pv rfl (PV.geq rfl rfl rfl) ?_
    refine RG.pv rfl (PV.mvB (.inl rfl) rfl) ?_
    refine RG.gs rfl rfl rfl (fun hp => (PV.mvS (.inl rfl) rfl)) ?_
    refine RG.gs rfl rfl rfl (fun hp => (PV.lenS rfl Tryz.underlying9 (gs_t hp))) ?_
    refine RG.gs rfl rfl rfl (fun hp => (PV.leq rfl (gs_t hp) rfl)) ?_
    refine RG.pv rfl (PV.pickA rfl rfl (fun hq => gs_t (geqT hq)) rfl) ?_
    refine RG.pv rfl (PV.mvB (.inr rfl) rfl) ?_
    refine RG.nil ?_
    refine WP.ret ?_
    exact ⟨_, _, ResV.one rfl rfl, Cv.p, k⟩
def unitB (p : Pt) : Bool := within p.x (-40) 39 && within p.y (-40) 39
def validLb (l : Label) : Bool := (within l.layer 0 7 && unitB l.at_) && isName l.name
theorem validLb_i {l : Label} (hs : l.name.size ≤ 9223372036854775807) (k : R (.bool (validLb l)) G L) : CallT Tryz.prog 96 #[vT labelT l] G L R := by
  refine CallT.enter (args := _) Tryz.func96 rfl rfl (by kernel_rfl) rfl ?_
  refine WP.seq ?_
  refine WP.region ?_
  refine RG.ot rfl (OT.box (cs := labelT.enc l) rfl rfl rfl fun b1 => ?_)
  refine RG.pv rfl (PV.mvB (.inr rfl) rfl) ?_
  refine RG.nil ?_
  refine WP.seq ?_
  refine WP.region ?_
  refine RG.pv rfl (PV.field rfl Fo51_0 rfl) ?_
  refine RG.pv rfl (PV.load1 rfl Sc2 rfl (Rd.blk rfl)) ?_
  refine RG.callF (vs := [_, _, _]) rfl rfl En141 rfl (within_s ?_)
  refine RG.pv rfl (PV.mvB (.inl rfl) rfl) ?_
  refine RG.gs rfl rfl rfl (fun hp => (PV.field rfl Fo51_1 rfl)) ?_
  refine RG.gs rfl rfl rfl (fun hp => (PV.loadB (vs := [_, _]) rfl Ag49 (gs_t hp) rfl rfl)) ?_
  refine RG.gsC rfl rfl rfl rfl En142 (fun hp => ⟨_, (acons (gs_t hp) anil), unitCell_s ⟨rfl, rfl, rfl⟩⟩) ?_
  refine RG.pv rfl (PV.pickA rfl rfl (fun hq => gs_t (geqT hq)) rfl) ?_
  refine RG.pv rfl (PV.mvB (.inl rfl) rfl) ?_
  refine RG.gs rfl rfl rfl (fun hp => (PV.field rfl Fo51_2 rfl)) ?_
  refine RG.gs rfl rfl rfl (fun hp => (PV.load1 rfl Sc9 (gs_t hp) (Rd.blk rfl))) ?_
  refine RG.gsC rfl rfl rfl rfl En143 (fun hp => ⟨_, (acons (gs_t hp) anil), isName_i hs ⟨rfl, rfl, rfl⟩⟩) ?_
  refine RG.pv rfl (PV.pickA rfl rfl (fun hq => gs_t (geqT hq)) rfl) ?_
  refine RG.pv rfl (PV.mvB (.inr rfl) rfl) ?_
  refine RG.nil ?_
  refine WP.ret ?_
  exact ⟨_, _, ResV.one rfl rfl, Cv.p, k⟩
theorem notLb_s {l : Label} (hs : l.name.size ≤ 9223372036854775807) (k : R (.bool (!validLb l)) G L) : CallT Tryz.prog 95 #[vT labelT l] G L R := by
  refine CallT.enter (args := _) Tryz.func95 rfl rfl (by kernel_rfl) rfl ?_
  refine WP.seq ?_
  refine WP.region ?_
  refine RG.ot rfl (OT.box (cs := labelT.enc l) rfl rfl rfl fun b1 => ?_)
  refine RG.pv rfl (PV.mvB (.inr rfl) rfl) ?_
  refine RG.nil ?_
  refine WP.seq ?_
  refine WP.region ?_
  refine RG.pv rfl (PV.loadW rfl Ag51 rfl rfl) ?_
  refine RG.callF (vs := [_]) rfl rfl En96 rfl (validLb_i hs ?_)
  refine RG.pv rfl (PV.not rfl rfl) ?_
  refine RG.pv rfl (PV.mvB (.inr rfl) rfl) ?_
  refine RG.nil ?_
  refine WP.ret ?_
  exact ⟨_, _, ResV.one rfl rfl, Cv.p, k⟩
theorem indexF_label {v fv : Value} {xs : List (Label)} {p : (Label) → Bool} (h1 : Rs G L labelT v xs) (hf : ∀ i, i < xs.length → CB Tryz.prog G L fv [vT labelT (gd xs i)] (.bool (p (gd xs i)))) (k : R (vi (idxI p xs)) G L) : CallT Tryz.prog 140 #[v, fv] G L R := by
  refine CallT.bd h1 fun hb => ?_
  refine CallT.enter (args := _) Tryz.func140 rfl rfl (by kernel_rfl) rfl ?_
  refine WP.seq ?_
  refine WP.region ?_
  refine RG.pv rfl (PV.mvI (.inr rfl) rfl) ?_
  refine RG.nil ?_
  refine WP.seq ?_
  refine WP.seq ?_
  refine WP.region ?_
  refine RG.pv rfl (PV.move (v := v) rfl rfl) ?_
  refine RG.pv rfl (PV.len (v := v) rfl Tryz.underlying31 rfl (SlF.r h1)) ?_
  refine RG.pv rfl (PV.mvI (.inl rfl) rfl) ?_
  refine RG.nil ?_
  refine WP.block ?_
  refine WP.loop1 [0, 1, 7] (fun i => i ≤ xs.length ∧ ∀ j, j < i → p (gd xs j) = false) (fun i => [(8, vi i)]) (fun i => L) (fun i => xs.length - i) 0 ⟨by omega, fun j h => by omega⟩ ⟨rfl, trivial⟩ Cv.p ?_
  rintro i τ ⟨hi, hj⟩
  refine WP.seq ?_
  refine WP.region ?_
  refine RG.pv rfl (PV.lss rfl rfl rfl) ?_
  refine RG.nil ?_
  refine WP.seq ?_
  refine WP.cond rfl (fun h2 => ?_) (fun h2 => ?_)
  · have h2 := of_decide_eq_true h2
    refine WP.skip ?_
    refine WP.seq ?_
    refine WP.block ?_
    refine WP.seq ?_
    refine WP.region ?_
    refine RG.pv rfl (PV.mvI (.inl rfl) rfl) ?_
    refine RG.pv rfl (PV.mvI (.inr rfl) rfl) ?_
    refine RG.nil ?_
    refine WP.seq ?_
    refine WP.region ?_
    refine RG.pv rfl (PV.move (v := fv) rfl rfl) ?_
    refine RG.pv rfl (PV.move (v := v) rfl rfl) ?_
    refine RG.pv rfl (PV.mvI (.inl rfl) rfl) ?_
    refine RG.pv rfl (PV.idxS (v := v) rfl Is31 rfl (SlF.r h1) rfl rfl (by omega)) ?_
    refine RG.pv rfl (PV.loadE rfl Ag51 rfl rfl (El.r h1 (getG (by omega)))) ?_
    refine RG.callB (vs := [_]) rfl rfl rfl rfl (CB.up (hf i (by omega))) ?_
    refine RG.nil ?_
    refine WP.cond rfl (fun h3 => ?_) (fun h3 => ?_)
    · rw [idxI_at (by omega) h3 hj] at k
      refine WP.seq ?_
      refine WP.region ?_
      refine RG.pv rfl (PV.mvI (.inl rfl) rfl) ?_
      refine RG.pv rfl (PV.mvI (.inr rfl) rfl) ?_
      refine RG.nil ?_
      refine WP.ret ?_
      exact ⟨_, _, ResV.one rfl rfl, Cv.p, k⟩
    · have hj' : ∀ j, j < i + 1 → p (gd xs j) = false := fun j h => by
        by_cases c : j = i
        · rw [c]; exact h3
        · exact hj j (by omega)
      refine WP.skip ?_
      refine WP.region ?_
      refine RG.pv rfl (PV.add rfl rfl rfl (by omega)) ?_
      refine RG.pv rfl (PV.mvI (.inl rfl) rfl) ?_
      refine RG.nil ?_
      exact ⟨rfl, i + 1, ⟨by omega, hj'⟩, ⟨rfl, trivial⟩, ⟨rfl, rfl, rfl, trivial⟩, Cv.p, by omega⟩
  · have h2 := of_decide_eq_false h2
    rw [idxI_none (fun j h => hj j (by omega))] at k
    refine WP.exit ?_
    refine WP.seq ?_
    refine WP.region ?_
    refine RG.pv rfl (PV.mvI (.inr rfl) rfl) ?_
    refine RG.nil ?_
    refine WP.ret ?_
    exact ⟨_, _, ResV.one rfl rfl, Cv.p, k⟩
theorem containsF_label {v fv : Value} {xs : List (Label)} {p : (Label) → Bool} (h1 : Rs G L labelT v xs) (hf : ∀ i, i < xs.length → CB Tryz.prog G L fv [vT labelT (gd xs i)] (.bool (p (gd xs i)))) (k : R (.bool (xs.any p)) G L) : CallT Tryz.prog 94 #[v, fv] G L R := by
  rw [← idxI_any] at k
  refine CallT.enter (args := _) Tryz.func94 rfl rfl (by kernel_rfl) rfl ?_
  refine WP.seq ?_
  refine WP.region ?_
  refine RG.pv rfl (PV.mvB (.inr rfl) rfl) ?_
  refine RG.nil ?_
  refine WP.seq ?_
  refine WP.region ?_
  refine RG.pv rfl (PV.move (v := v) rfl rfl) ?_
  refine RG.pv rfl (PV.move (v := fv) rfl rfl) ?_
  refine RG.callF (vs := [v, fv]) rfl rfl En140 rfl (indexF_label (Rs.up h1) (fun i hi => (hf i hi).up) ?_)
  refine RG.pv rfl (PV.geq rfl rfl rfl) ?_
  refine RG.pv rfl (PV.mvB (.inr rfl) rfl) ?_
  refine RG.nil ?_
  refine WP.ret ?_
  exact ⟨_, _, ResV.one rfl rfl, Cv.p, k⟩
def labelsOk (xs : List Label) : Bool := decide ((xs.length : Int) ≤ 1600) && !(xs.any fun l => !validLb l)
theorem validLbs_i {v : Value} {xs : List Label} (h1 : Rs G L labelT v xs) (hlen : ∀ i, i < xs.length → (gd xs i).name.size ≤ 9223372036854775807) (k : R (.bool (labelsOk xs)) G L) : CallT Tryz.prog 54 #[v] G L R := by
  refine CallT.enter (args := _) Tryz.func54 rfl rfl (by kernel_rfl) rfl ?_
  refine WP.seq ?_
  refine WP.region ?_
  refine RG.pv rfl (PV.mvB (.inr rfl) rfl) ?_
  refine RG.nil ?_
  refine WP.seq ?_
  refine WP.region ?_
  refine RG.pv rfl (PV.move (v := v) rfl rfl) ?_
  refine RG.pv rfl (PV.len (v := v) rfl Tryz.underlying31 rfl (SlF.r h1)) ?_
  refine RG.pv rfl (PV.leq rfl rfl rfl) ?_
  refine RG.pv rfl (PV.mvB (.inl rfl) rfl) ?_
  refine RG.gs rfl rfl rfl (fun hp => (PV.move (v := v) rfl rfl)) ?_
  refine RG.gsC rfl rfl rfl rfl En94 (fun hp => ⟨_, (acons (gs_t hp) (acons rfl anil)), containsF_label (Rs.up h1) (p := fun l => !validLb l) (fun i hi => CB.mk0 En95 fun L' R c k => notLb_s (hlen i hi) k) ⟨rfl, rfl, rfl⟩⟩) ?_
  refine RG.gs rfl rfl rfl (fun hp => (PV.not rfl (gs_t hp))) ?_
  refine RG.pv rfl (PV.pickA rfl rfl (fun hq => gs_t (geqT hq)) rfl) ?_
  refine RG.pv rfl (PV.mvB (.inr rfl) rfl) ?_
  refine RG.nil ?_
  refine WP.ret ?_
  exact ⟨_, _, ResV.one rfl rfl, Cv.p, k⟩
end Go.Proofs.YtmomfgfmnpblpaaGreat
namespace Go.Proofs.YtmomfgfmnpblpaaGreat
set_option linter.unusedVariables false
set_option linter.unusedSimpArgs false
open Go
set_option maxRecDepth 20000
set_option linter.unusedSimpArgs false
variable {G : Gh} {L : List Ch} {R : Value → Gh → List Ch → Prop}
noncomputable def labC (l : List (List Rect)) (ls : List Label) : Int := if (isLay l && labelsOk ls) = true then netE l else 1
noncomputable def labF (l : List (List Rect)) (b : Label) : Int := findL l b.layer b.at_.x b.at_.y
noncomputable def labR (l : List (List Rect)) (ls : List Label) : List Int := if labC l ls = 0 then ls.map (labF l) else []
theorem labC_bad {l : List (List Rect)} {ls : List Label} (h : (!isLay l || !labelsOk ls) = true) : labC l ls = 1 := by
  cases h1 : isLay l <;> cases h2 : labelsOk ls <;> simp [labC, h1, h2] at h ⊢
theorem labC_good {l : List (List Rect)} {ls : List Label} (h : (!isLay l || !labelsOk ls) = false) : labC l ls = netE l ∧ isLay l = true ∧ labelsOk ls = true := by
  cases h1 : isLay l <;> cases h2 : labelsOk ls <;> simp_all [labC]
theorem take_map {α β : Type} [Inhabited α] (f : α → β) {xs : List α} {i : Nat} (h : i < xs.length) : (xs.take (i + 1)).map f = (xs.take i).map f ++ [f (gd xs i)] := by
  rw [List.take_add_one, getG h, List.map_append]; rfl
theorem labNets_i {v u : Value} {xs : List (Sl Rect)} {ls : List Label} (h1 : Rs G L slT v xs) (hd : RsE G L rectT xs) (h2 : Rs G L labelT u ls) (hlen : ∀ i, i < ls.length → (gd ls i).name.size ≤ 9223372036854775807) (k : ∀ v', R (.tuple #[v', vi (labC (er xs) ls)]) G (osl 2 intT v' (labR (er xs) ls) :: L)) : CallT Tryz.prog 14 #[v, u] G L R := by
  refine CallT.enter (args := _) Tryz.func14 rfl rfl (by kernel_rfl) rfl ?_
  refine WP.seq ?_
  refine WP.region ?_
  refine RG.pv rfl (PV.asg rfl rfl) ?_
  refine RG.pv rfl (PV.mvI (.inr rfl) rfl) ?_
  refine RG.nil ?_
  refine WP.seq ?_
  refine WP.seq ?_
  refine WP.region ?_
  refine RG.pv rfl (PV.move (v := v) rfl rfl) ?_
  refine RG.callF (vs := [v]) rfl rfl En53 rfl (isLayout_s (Rs.up h1) hd.up ?_)
  refine RG.pv rfl (PV.not rfl rfl) ?_
  refine RG.pv rfl (PV.mvB (.inl rfl) rfl) ?_
  refine RG.gs rfl rfl rfl (fun hp => (PV.move (v := u) rfl rfl)) ?_
  refine RG.gsC rfl rfl rfl rfl En54 (fun hp => ⟨_, (acons (gs_t hp) anil), validLbs_i (Rs.up h2) hlen ⟨rfl, rfl, rfl⟩⟩) ?_
  refine RG.gs rfl rfl rfl (fun hp => (PV.not rfl (gs_t hp))) ?_
  refine RG.pv rfl (PV.pickO rfl rfl rfl (fun hq => gs_t (geqF hq))) ?_
  refine RG.nil ?_
  refine WP.cond rfl (fun h3 => ?_) (fun h3 => ?_)
  · have e := labC_bad (l := er xs) (ls := ls) h3
    have e2 : labR (er xs) ls = [] := by rw [labR, if_neg (by rw [e]; decide)]
    rw [e, e2] at k
    refine WP.seq ?_
    refine WP.region ?_
    refine RG.pv rfl (PV.asg rfl rfl) ?_
    refine RG.pv rfl (PV.mvI (.inr rfl) rfl) ?_
    refine RG.nil ?_
    refine WP.ret ?_
    exact ⟨_, _, ResV.two rfl rfl rfl, Cv.nilP, k _⟩
  · obtain ⟨e, hlay, hlo⟩ := labC_good (l := er xs) (ls := ls) h3
    have hll : ls.length ≤ 1600 := by simp [labelsOk] at hlo; omega
    refine WP.skip ?_
    refine WP.seq ?_
    refine WP.region ?_
    refine RG.pv rfl (PV.move (v := v) rfl rfl) ?_
    refine RG.callF (vs := [v]) rfl rfl En55 rfl (nets_i (Rs.up h1) hd.up (fun w21 zsw21 hew21 => ?_))
    refine RG.pv rfl (PV.move (v := .tuple _) rfl rfl) ?_
    refine RG.pv rfl (PV.ext (v := w21) rfl rfl rfl) ?_
    refine RG.pv rfl (PV.ext rfl rfl rfl) ?_
    refine RG.pv rfl (PV.asg (v := w21) rfl rfl) ?_
    refine RG.pv rfl (PV.mvI (.inr rfl) rfl) ?_
    refine RG.nil ?_
    refine WP.seq ?_
    refine WP.seq ?_
    refine WP.region ?_
    refine RG.pv rfl (PV.mvI (.inl rfl) rfl) ?_
    refine RG.pv rfl (PV.neq rfl rfl rfl) ?_
    refine RG.nil ?_
    refine WP.cond rfl (fun h4 => ?_) (fun h4 => ?_)
    · have h5 : netE (er xs) ≠ 0 := by simpa using h4
      have e2 : labR (er xs) ls = [] := by rw [labR, if_neg (by rw [e]; exact h5)]
      rw [e, e2] at k
      refine WP.seq ?_
      refine WP.region ?_
      refine RG.pv rfl (PV.mvI (.inl rfl) rfl) ?_
      refine RG.pv rfl (PV.asg rfl rfl) ?_
      refine RG.pv rfl (PV.mvI (.inr rfl) rfl) ?_
      refine RG.nil ?_
      refine WP.ret ?_
      exact ⟨_, _, ResV.two rfl rfl rfl, Cv.nilP, k _⟩
    · have h5 : netE (er xs) = 0 := by simpa using h4
      have he : (er (nps zsw21)).map erPs = netL (er xs) := by rw [hew21, netR, if_pos h5]
      have e2 : labR (er xs) ls = ls.map (labF (er xs)) := by rw [labR, if_pos (by rw [e]; exact h5)]
      rw [e, e2, h5] at k
      refine WP.skip ?_
      refine WP.seq ?_
      refine WP.region ?_
      refine RG.ot rfl (OT.bslice (F := intT) (els := []) rfl El26 rfl (by decide) rfl (by decide) trivial fun v27 => ?_)
      refine RG.pv rfl (PV.asg (v := v27) rfl rfl) ?_
      refine RG.nil ?_
      refine WP.seq ?_
      refine WP.seq ?_
      refine WP.region ?_
      refine RG.pv rfl (PV.move (v := u) rfl rfl) ?_
      refine RG.pv rfl (PV.len (v := u) rfl Tryz.underlying31 rfl (SlF.r h2)) ?_
      refine RG.pv rfl (PV.mvI (.inl rfl) rfl) ?_
      refine RG.nil ?_
      refine WP.block ?_
      refine WP.loop3 [6, 28, 29] (fun (i : Nat) (os : List Int) (q : Value) => i ≤ ls.length ∧ os = (ls.take i).map (labF (er xs))) (fun (i : Nat) (os : List Int) (q : Value) => [(30, vi i), (8, q)]) (fun (i : Nat) (os : List Int) (q : Value) => osl 2 intT q os :: osl 140 netT w21 zsw21 :: bagS 143 pieceT (nps zsw21) :: bagS 61 rectT (regs (er (nps zsw21)).flatten) :: L) (fun (i : Nat) (os : List Int) (q : Value) => ls.length - i) 0 [] v27 ⟨by omega, rfl⟩ ⟨rfl, rfl, trivial⟩ Cv.p ?_
      rintro i os q τ ⟨hi, hos⟩
      refine WP.seq ?_
      refine WP.region ?_
      refine RG.pv rfl (PV.lss rfl rfl rfl) ?_
      refine RG.nil ?_
      refine WP.seq ?_
      have hol : os.length ≤ 1600 := by rw [hos, List.length_map, List.length_take]; omega
      refine WP.cond rfl (fun h6 => ?_) (fun h6 => ?_)
      · have h6 := of_decide_eq_true h6
        have htk := take_map (labF (er xs)) (xs := ls) (i := i) (by omega)
        refine WP.skip ?_
        refine WP.seq ?_
        refine WP.block ?_
        refine WP.seq ?_
        refine WP.region ?_
        refine RG.pv rfl (PV.idxS (v := u) rfl Is31 rfl (SlF.r h2) rfl rfl (by omega)) ?_
        refine RG.pv rfl (PV.loadE rfl Ag51 rfl rfl (El.r h2 (getG (by omega)))) ?_
        refine RG.ot rfl (OT.alloc rfl Zr51 fun b10 => ?_)
        refine RG.ot rfl (OT.storeW (vs := [vi _, vi _, vi _, .string _]) rfl Sz51 rfl rfl (Cl.c rfl) rfl rfl (OneC.c rfl) ?_)
        refine RG.nil ?_
        refine WP.region ?_
        refine RG.pv rfl (PV.move (v := q) rfl rfl) ?_
        refine RG.pv rfl (PV.move (v := w21) rfl rfl) ?_
        refine RG.pv rfl (PV.field rfl Fo51_0 rfl) ?_
        refine RG.pv rfl (PV.load1 rfl Sc2 rfl (Rd.blk rfl)) ?_
        refine RG.pv rfl (PV.field rfl Fo51_1 rfl) ?_
        refine RG.pv rfl (PV.loadB (vs := [_, _]) rfl Ag49 rfl rfl rfl) ?_
        refine RG.callF (vs := [w21, _, _]) rfl rfl En56 rfl (netAt_f (q := (gd ls i).at_) Rs.o RsE.o (fun i hi => RsE.flat hi) he ?_)
        refine RG.ot rfl (OT.bslice (F := intT) (els := [_]) rfl El26 rfl (by decide) rfl (by decide) ⟨rfl, (Cl.c rfl), trivial⟩ fun v41 => ?_)
        refine RG.ot rfl (OT.append (v := q) (u := v41) (F := intT) rfl El26 rfl (by decide) rfl rfl Rs.o (OneL.c (fun _ => rfl)) rfl (by first | omega | (simp <;> omega)) fun v42 => ?_)
        refine RG.pv rfl (PV.asg (v := v42) rfl rfl) ?_
        refine RG.nil ?_
        refine WP.region ?_
        refine RG.pv rfl (PV.add rfl rfl rfl (by omega)) ?_
        refine RG.pv rfl (PV.mvI (.inl rfl) rfl) ?_
        refine RG.nil ?_
        exact ⟨rfl, i + 1, (os ++ [findL (er xs) (gd ls i).layer (gd ls i).at_.x (gd ls i).at_.y]), v42, ⟨by omega, by rw [htk, ← hos]; rfl⟩, ⟨rfl, rfl, trivial⟩, ⟨rfl, rfl, rfl, trivial⟩, Cv.p, by omega⟩
      · have h6 := of_decide_eq_false h6
        rw [List.take_of_length_le (by omega)] at hos
        rw [← hos] at k
        refine WP.exit ?_
        refine WP.seq ?_
        refine WP.region ?_
        refine RG.pv rfl (PV.move (v := q) rfl rfl) ?_
        refine RG.pv rfl (PV.asg (v := q) rfl rfl) ?_
        refine RG.pv rfl (PV.mvI (.inr rfl) rfl) ?_
        refine RG.nil ?_
        refine WP.ret ?_
        exact ⟨_, _, ResV.two rfl rfl rfl, Cv.p, k q⟩
end Go.Proofs.YtmomfgfmnpblpaaGreat
namespace Go.Proofs.YtmomfgfmnpblpaaGreat
set_option linter.unusedVariables false
set_option linter.unusedSimpArgs false
open Go
set_option maxRecDepth 20000
set_option linter.unusedSimpArgs false
variable {G : Gh} {L : List Ch} {R : Value → Gh → List Ch → Prop}
section
variable {P : Program} {σ : Nat → Value} {o : Oper} {T T' : TypeId} {x y : Operand}
def strLt (a b : ByteArray) : Bool := Op.bytesLess a.toList b.toList
theorem PV.lssS {p q : ByteArray} (ho : o.op = .binOp .lss T x y T') (hx : ev σ x = .string p) (hy : ev σ y = .string q) : PV P o σ G L (.bool (strLt p q)) := by
  intro w hw
  simp [execOp, ho, hx, hy, eqGuard, binOp_string_lss, strLt]
end
theorem isNaN_str {a : ByteArray} (k : R (.bool false) G L) : CallT Tryz.prog 203 #[.string a] G L R := by
  have e : (!decide (a = a)) = false := by simp
  refine CallT.enter (args := _) Tryz.func203 rfl rfl (by kernel_rfl) rfl ?_
  refine WP.seq ?_
  refine WP.region ?_
  refine RG.pv rfl (PV.mvB (.inr rfl) rfl) ?_
  refine RG.nil ?_
  refine WP.seq ?_
  refine WP.region ?_
  refine RG.pv rfl (PV.mvS (.inl rfl) rfl) ?_
  refine RG.pv rfl (PV.mvS (.inl rfl) rfl) ?_
  refine RG.pv rfl (PV.neqS rfl rfl rfl) ?_
  refine RG.pv rfl (PV.mvB (.inr rfl) rfl) ?_
  refine RG.nil ?_
  refine WP.ret ?_
  exact ⟨_, _, ResV.one rfl rfl, Cv.p, (by rw [e]; exact k)⟩
def lt_int (a b : Int) : Bool := decide (a < b)
def lt_str (a b : ByteArray) : Bool := strLt a b
theorem less_int {a b : Int} (k : R (.bool (lt_int a b)) G L) : CallT Tryz.prog 160 #[vi a, vi b] G L R := by
  refine CallT.enter (args := _) Tryz.func160 rfl rfl (by kernel_rfl) rfl ?_
  refine WP.seq ?_
  refine WP.region ?_
  refine RG.pv rfl (PV.mvB (.inr rfl) rfl) ?_
  refine RG.nil ?_
  refine WP.seq ?_
  refine WP.region ?_
  refine RG.pv rfl (PV.mvI (.inl rfl) rfl) ?_
  refine RG.callF (vs := [_]) rfl rfl En199 rfl (isNaN_s ?_)
  refine RG.pv rfl (PV.mvB (.inl rfl) rfl) ?_
  refine RG.gs rfl rfl rfl (fun hp => (PV.mvI (.inl rfl) rfl)) ?_
  refine RG.gsC rfl rfl rfl rfl En199 (fun hp => ⟨_, (acons (gs_t hp) anil), isNaN_s ⟨rfl, rfl, rfl⟩⟩) ?_
  refine RG.gs rfl rfl rfl (fun hp => (PV.not rfl (gs_t hp))) ?_
  refine RG.pv rfl (PV.pickA rfl rfl (fun hq => gs_t (geqT hq)) rfl) ?_
  refine RG.pv rfl (PV.mvB (.inl rfl) rfl) ?_
  refine RG.gs rfl rfl rfl (fun hp => (PV.mvI (.inl rfl) rfl)) ?_
  refine RG.gs rfl rfl rfl (fun hp => (PV.mvI (.inl rfl) rfl)) ?_
  refine RG.gs rfl rfl rfl (fun hp => (PV.lss rfl (gs_t hp) (gs_t hp))) ?_
  refine RG.pv rfl (PV.pickO rfl rfl rfl (fun hq => gs_t (geqF hq))) ?_
  refine RG.pv rfl (PV.mvB (.inr rfl) rfl) ?_
  refine RG.nil ?_
  refine WP.ret ?_
  exact ⟨_, _, ResV.one rfl rfl, Cv.p, k⟩
theorem less_str {a b : ByteArray} (k : R (.bool (lt_str a b)) G L) : CallT Tryz.prog 171 #[.string a, .string b] G L R := by
  refine CallT.enter (args := _) Tryz.func171 rfl rfl (by kernel_rfl) rfl ?_
  refine WP.seq ?_
  refine WP.region ?_
  refine RG.pv rfl (PV.mvB (.inr rfl) rfl) ?_
  refine RG.nil ?_
  refine WP.seq ?_
  refine WP.region ?_
  refine RG.pv rfl (PV.mvS (.inl rfl) rfl) ?_
  refine RG.callF (vs := [_]) rfl rfl En203 rfl (isNaN_str ?_)
  refine RG.pv rfl (PV.mvB (.inl rfl) rfl) ?_
  refine RG.gs rfl rfl rfl (fun hp => (PV.mvS (.inl rfl) rfl)) ?_
  refine RG.gsC rfl rfl rfl rfl En203 (fun hp => ⟨_, (acons (gs_t hp) anil), isNaN_str ⟨rfl, rfl, rfl⟩⟩) ?_
  refine RG.gs rfl rfl rfl (fun hp => (PV.not rfl (gs_t hp))) ?_
  refine RG.pv rfl (PV.pickA rfl rfl (fun hq => gs_t (geqT hq)) rfl) ?_
  refine RG.pv rfl (PV.mvB (.inl rfl) rfl) ?_
  refine RG.gs rfl rfl rfl (fun hp => (PV.mvS (.inl rfl) rfl)) ?_
  refine RG.gs rfl rfl rfl (fun hp => (PV.mvS (.inl rfl) rfl)) ?_
  refine RG.gs rfl rfl rfl (fun hp => (PV.lssS rfl (gs_t hp) (gs_t hp))) ?_
  refine RG.pv rfl (PV.pickO rfl rfl rfl (fun hq => gs_t (geqF hq))) ?_
  refine RG.pv rfl (PV.mvB (.inr rfl) rfl) ?_
  refine RG.nil ?_
  refine WP.ret ?_
  exact ⟨_, _, ResV.one rfl rfl, Cv.p, k⟩
theorem arr_gd {α : Type} [Inhabited α] (xs : List α) (i : Nat) : xs.toArray[i]! = gd xs i := by
  unfold gd; simp [getElem!_def]; split <;> simp_all
abbrev swpL {α : Type} [Inhabited α] (xs : List α) (i j : Nat) : List α := (xs.set i (gd xs j)).set j (gd xs i)
theorem swpL_arr {α : Type} [Inhabited α] (xs : List α) (i j : Nat) : Sort.swp xs.toArray i j = (swpL xs i j).toArray := by
  rw [Sort.swp, arr_gd, arr_gd]; simp [swpL]
theorem swpL_len {α : Type} [Inhabited α] (xs : List α) (i j : Nat) : (swpL xs i j).length = xs.length := by simp [swpL]
def insL {α : Type} [Inhabited α] (lt : α → α → Bool) (a b : Nat) (xs : List α) : List α := (Sort.insertionSort lt xs.toArray a b).toList
theorem insInner_t {α : Type} [Inhabited α] {lt : α → α → Bool} {a j : Nat} {xs : List α} (h1 : a < j) (h2 : lt (gd xs j) (gd xs (j - 1)) = true) : Sort.insInner lt a j xs.toArray = Sort.insInner lt a (j - 1) (swpL xs j (j - 1)).toArray := by
  obtain ⟨m, rfl⟩ : ∃ m, j = m + 1 := ⟨j - 1, by omega⟩
  simp only [Nat.add_sub_cancel] at *
  rw [Sort.insInner, arr_gd, arr_gd, if_pos (by simp [h2]; omega), swpL_arr]
theorem insInner_f {α : Type} [Inhabited α] {lt : α → α → Bool} {a j : Nat} {xs : List α} (h : ¬ a < j ∨ lt (gd xs j) (gd xs (j - 1)) = false) : Sort.insInner lt a j xs.toArray = xs.toArray := by
  cases j with
  | zero => rw [Sort.insInner]
  | succ m =>
    simp only [Nat.add_sub_cancel] at *
    rw [Sort.insInner, arr_gd, arr_gd, if_neg]
    rcases h with h | h
    · simp; omega
    · simp [h]
theorem insOuter_t {α : Type} [Inhabited α] {lt : α → α → Bool} {a b i : Nat} {d : Array α} (h : i < b) : Sort.insOuter lt a b i d = Sort.insOuter lt a b (i + 1) (Sort.insInner lt a i d) := by
  rw [Sort.insOuter, if_pos h]
theorem insOuter_f {α : Type} [Inhabited α] {lt : α → α → Bool} {a b i : Nat} {d : Array α} (h : ¬ i < b) : Sort.insOuter lt a b i d = d := by
  rw [Sort.insOuter, if_neg h]
theorem ins_int {v : Value} {xs : List Int} {a b : Nat} (hab : a ≤ b) (hb : b ≤ xs.length) (hl : xs.length ≤ 1000000) (k : R (.tuple #[]) G (osl 2 intT v (insL lt_int a b xs) :: L)) : CallT Tryz.prog 154 #[v, vi a, vi b] G (osl 2 intT v xs :: L) R := by
  refine CallT.enter (args := _) Tryz.func154 rfl rfl (by kernel_rfl) rfl ?_
  refine WP.seq ?_
  refine WP.region ?_
  refine RG.pv rfl (PV.mvI (.inl rfl) rfl) ?_
  refine RG.pv rfl (PV.add rfl rfl rfl (by omega)) ?_
  refine RG.pv rfl (PV.mvI (.inr rfl) rfl) ?_
  refine RG.nil ?_
  refine WP.block ?_
  refine WP.loop2 [0, 1, 2] (fun (i : Nat) (zs : List Int) => i ≤ max b (a + 1) ∧ zs.length = xs.length ∧ Sort.insOuter lt_int a b i zs.toArray = Sort.insOuter lt_int a b (a + 1) xs.toArray) (fun (i : Nat) (zs : List Int) => [(6, vi i)]) (fun (i : Nat) (zs : List Int) => osl 2 intT v zs :: L) (fun (i : Nat) (zs : List Int) => b + 1 - i) (a + 1) xs ⟨by omega, rfl, rfl⟩ ⟨rfl, trivial⟩ Cv.p ?_
  rintro i zs τ ⟨hi, hzl, hz⟩
  refine WP.seq ?_
  refine WP.seq ?_
  refine WP.region ?_
  refine RG.pv rfl (PV.mvI (.inl rfl) rfl) ?_
  refine RG.pv rfl (PV.mvI (.inl rfl) rfl) ?_
  refine RG.pv rfl (PV.lss rfl rfl rfl) ?_
  refine RG.nil ?_
  refine WP.cond rfl (fun h2 => ?_) (fun h2 => ?_)
  · have h2 := of_decide_eq_true h2
    have hib : i < b := by omega
    refine WP.skip ?_
    refine WP.seq ?_
    refine WP.block ?_
    refine WP.seq ?_
    refine WP.region ?_
    refine RG.pv rfl (PV.mvI (.inl rfl) rfl) ?_
    refine RG.pv rfl (PV.mvI (.inr rfl) rfl) ?_
    refine RG.nil ?_
    refine WP.block ?_
    refine WP.loop2 [0, 1, 2, 6] (fun (j : Int) (ys : List Int) => (0 ≤ j ∧ j ≤ i) ∧ ys.length = xs.length ∧ Sort.insInner lt_int a j.toNat ys.toArray = Sort.insInner lt_int a i zs.toArray) (fun (j : Int) (ys : List Int) => [(7, vi j)]) (fun (j : Int) (ys : List Int) => osl 2 intT v ys :: L) (fun (j : Int) (ys : List Int) => j.toNat) i zs ⟨by omega, hzl, rfl⟩ ⟨rfl, trivial⟩ Cv.p ?_
    rintro j ys τ1 ⟨hj, hyl, hy⟩
    refine WP.seq ?_
    refine WP.seq ?_
    refine WP.regionQ (by kernel_rfl) (by kernel_rfl) ?_
    refine RQ.pv rfl (PV.mvI (.inl rfl) rfl) ?_
    refine RQ.pv rfl (PV.mvI (.inl rfl) rfl) ?_
    refine RQ.pv rfl (PV.gtr rfl rfl rfl) ?_
    refine RQ.pv rfl (PV.mvB (.inl rfl) rfl) ?_
    refine RQ.gs rfl rfl rfl (fun hp => (PV.move (v := v) rfl rfl)) ?_
    refine RQ.gs rfl rfl rfl (fun hp => (PV.mvI (.inl rfl) rfl)) ?_
    refine RQ.gs rfl rfl rfl (fun hp => (PV.idxS (j := j.toNat) (v := v) rfl Is26 (gs_t hp) SlF.o (gs_t hp) (by first | omega | (simp at hp; omega)) (by first | omega | (simp at hp; omega)))) ?_
    refine RQ.gs rfl rfl rfl (fun hp => (PV.loadE1 rfl Sc2 (gs_t hp) rfl (El.o (getG (by first | omega | (simp at hp; omega)))) rfl)) ?_
    refine RQ.gs rfl rfl rfl (fun hp => (PV.move (v := v) rfl rfl)) ?_
    refine RQ.gs rfl rfl rfl (fun hp => (PV.mvI (.inl rfl) rfl)) ?_
    refine RQ.gs rfl rfl rfl (fun hp => (PV.sub rfl (gs_t hp) rfl (by first | omega | (simp at hp; omega)))) ?_
    refine RQ.gs rfl rfl rfl (fun hp => (PV.idxS (j := j.toNat - 1) (v := v) rfl Is26 (gs_t hp) SlF.o (gs_t hp) (by first | omega | (simp at hp; omega)) (by first | omega | (simp at hp; omega)))) ?_
    refine RQ.gs rfl rfl rfl (fun hp => (PV.loadE1 rfl Sc2 (gs_t hp) rfl (El.o (getG (by first | omega | (simp at hp; omega)))) rfl)) ?_
    refine RQ.gsC rfl rfl rfl rfl En160 (fun hp => ⟨_, (acons (gs_t hp) (acons (gs_t hp) anil)), less_int ⟨rfl, rfl, rfl⟩⟩) ?_
    refine RQ.pv rfl (PV.pickA rfl rfl (fun hq => gs_t (geqT hq)) rfl) ?_
    refine RQ.nil ?_
    refine WP.cond rfl (fun h3 => ?_) (fun h3 => ?_)
    · simp only [Bool.and_eq_true, decide_eq_true_eq] at h3
      have h3 := h3
      have haj : a < j.toNat := by omega
      rw [insInner_t haj h3.2] at hy
      have ej : (j - 1).toNat = j.toNat - 1 := by omega
      refine WP.skip ?_
      refine WP.seq ?_
      refine WP.block ?_
      refine WP.regionHD [.s v] (.q 0 (.q 1 (.q 2 (.q 3 (.q 4 (.q 5 (.q 6 (.q 7 (.q 10 (.q 11 (.b 8 (.b 9 (.l 12 (.l 13 (.l 14 (.l 15 (.l 16 (.l 17 Sch.nil)))))) 12 (.b 9 (.l 13 (.l 14 (.l 15 (.l 16 (.l 17 Sch.nil))))) 13 (.l 9 (.l 14 (.l 15 (.l 16 (.l 17 Sch.nil))))))) 12 (.b 8 (.b 9 (.l 13 (.l 14 (.l 15 (.l 16 (.l 17 Sch.nil))))) 13 (.l 9 (.l 14 (.l 15 (.l 16 (.l 17 Sch.nil)))))) 13 (.l 8 (.l 9 (.l 14 (.l 15 (.l 16 (.l 17 Sch.nil)))))))))))))))))) (by kernel_rfl) (by kernel_rfl) (by kernel_rfl) rfl ?_
      refine RH.pv rfl (fun _ _ _ _ h => h) (Gh.le_refl _) PickC.pick rfl (PV.move (v := v) rfl rfl) ?_
      refine RH.pv rfl (fun _ _ _ _ h => h) (Gh.le_refl _) PickC.pick rfl (PV.mvI (.inl rfl) rfl) ?_
      refine RH.pv rfl (fun _ _ _ _ h => h) (Gh.le_refl _) PickC.pick rfl (PV.move (v := v) rfl rfl) ?_
      refine RH.pv rfl (fun _ _ _ _ h => h) (Gh.le_refl _) PickC.pick rfl (PV.mvI (.inl rfl) rfl) ?_
      refine RH.pv rfl (fun _ _ _ _ h => h) (Gh.le_refl _) PickC.pick rfl (PV.sub rfl rfl rfl (by omega)) ?_
      refine RH.pv rfl (fun _ _ _ _ h => h) (Gh.le_refl _) PickC.pick rfl (PV.move (v := v) rfl rfl) ?_
      refine RH.pv rfl (fun _ _ _ _ h => h) (Gh.le_refl _) PickC.pick rfl (PV.mvI (.inl rfl) rfl) ?_
      refine RH.pv rfl (fun _ _ _ _ h => h) (Gh.le_refl _) PickC.pick rfl (PV.sub rfl rfl rfl (by omega)) ?_
      refine RH.pv rfl (fun _ _ _ _ h => h) (Gh.le_refl _) PickC.pick rfl (PV.move (v := v) rfl rfl) ?_
      refine RH.pv rfl (fun _ _ _ _ h => h) (Gh.le_refl _) PickC.pick rfl (PV.mvI (.inl rfl) rfl) ?_
      refine RH.ot2 rfl rfl rfl rfl  (OT.pv (PV.idxS (j := j.toNat - 1) (v := v) rfl Is26 rfl SlF.o rfl (by first | omega | (simp only [List.length_set]; omega)) (by first | omega | (simp only [List.length_set]; omega))) ⟨Gh.le_refl _, PickC.pick, ?_⟩) (OT.pv (PV.idxS (j := j.toNat) (v := v) rfl Is26 rfl SlF.o rfl (by first | omega | (simp only [List.length_set]; omega)) (by first | omega | (simp only [List.length_set]; omega))) ⟨Gh.le_refl _, PickC.pick, ?_⟩)
      · refine RH.ot2 rfl rfl rfl rfl  (OT.pv (PV.loadE1 rfl Sc2 rfl rfl (El.o (getG (by omega))) rfl) ⟨Gh.le_refl _, PickC.pick, ?_⟩) (OT.pv (PV.idxS (j := j.toNat) (v := v) rfl Is26 rfl SlF.o rfl (by first | omega | (simp only [List.length_set]; omega)) (by first | omega | (simp only [List.length_set]; omega))) ⟨Gh.le_refl _, PickC.pick, ?_⟩)
        · refine RH.ot rfl rfl (OT.pv (PV.idxS (j := j.toNat) (v := v) rfl Is26 rfl SlF.o rfl (by first | omega | (simp only [List.length_set]; omega)) (by first | omega | (simp only [List.length_set]; omega))) ⟨Gh.le_refl _, PickC.pick, ?_⟩)
          refine RH.ot rfl rfl (OT.pv (PV.loadE1 rfl Sc2 rfl rfl (El.o (getG (by omega))) rfl) ⟨Gh.le_refl _, PickC.pick, ?_⟩)
          refine RH.ot rfl rfl (OT.pv (PV.idxS (j := j.toNat) (v := v) rfl Is26 rfl SlF.o rfl (by first | omega | (simp only [List.length_set]; omega)) (by first | omega | (simp only [List.length_set]; omega))) ⟨Gh.le_refl _, PickC.pick, ?_⟩)
          refine RH.ot rfl rfl (OT.storeE (F := intT) rfl Sz2 rfl rfl rfl (Cl.c rfl) (OneC.c rfl) (by first | omega | (simp only [List.length_set]; omega)) ⟨Gh.le_refl _, PickC.pick, ?_⟩)
          refine RH.ot rfl rfl (OT.pv (PV.idxS (j := j.toNat - 1) (v := v) rfl Is26 rfl SlF.o rfl (by first | omega | (simp only [List.length_set]; omega)) (by first | omega | (simp only [List.length_set]; omega))) ⟨Gh.le_refl _, PickC.pick, ?_⟩)
          refine RH.ot rfl rfl (OT.storeE (F := intT) rfl Sz2 rfl rfl rfl (Cl.c rfl) (OneC.c rfl) (by first | omega | (simp only [List.length_set]; omega)) ⟨Gh.le_refl _, PickC.pick, ?_⟩)
          refine RH.nil ?_
          refine WP.region ?_
          refine RG.pv rfl (PV.mvI (.inl rfl) rfl) ?_
          refine RG.pv rfl (PV.sub rfl rfl rfl (by omega)) ?_
          refine RG.pv rfl (PV.mvI (.inr rfl) rfl) ?_
          refine RG.nil ?_
          exact ⟨rfl, (j - 1), (swpL ys j.toNat (j.toNat - 1)), ⟨by omega, by rw [swpL_len]; exact hyl, by rw [ej]; exact hy⟩, ⟨rfl, trivial⟩, ⟨rfl, rfl, rfl, rfl, trivial⟩, Cv.p, by omega⟩
        · refine RH.ot2 rfl rfl rfl rfl  (OT.pv (PV.loadE1 rfl Sc2 rfl rfl (El.o (getG (by omega))) rfl) ⟨Gh.le_refl _, PickC.pick, ?_⟩) (OT.pv (PV.loadE1 rfl Sc2 rfl rfl (El.o (getG (by omega))) rfl) ⟨Gh.le_refl _, PickC.pick, ?_⟩)
          · refine RH.ot rfl rfl (OT.pv (PV.loadE1 rfl Sc2 rfl rfl (El.o (getG (by omega))) rfl) ⟨Gh.le_refl _, PickC.pick, ?_⟩)
            refine RH.ot rfl rfl (OT.pv (PV.idxS (j := j.toNat) (v := v) rfl Is26 rfl SlF.o rfl (by first | omega | (simp only [List.length_set]; omega)) (by first | omega | (simp only [List.length_set]; omega))) ⟨Gh.le_refl _, PickC.pick, ?_⟩)
            refine RH.ot rfl rfl (OT.storeE (F := intT) rfl Sz2 rfl rfl rfl (Cl.c rfl) (OneC.c rfl) (by first | omega | (simp only [List.length_set]; omega)) ⟨Gh.le_refl _, PickC.pick, ?_⟩)
            refine RH.ot rfl rfl (OT.pv (PV.idxS (j := j.toNat - 1) (v := v) rfl Is26 rfl SlF.o rfl (by first | omega | (simp only [List.length_set]; omega)) (by first | omega | (simp only [List.length_set]; omega))) ⟨Gh.le_refl _, PickC.pick, ?_⟩)
            refine RH.ot rfl rfl (OT.storeE (F := intT) rfl Sz2 rfl rfl rfl (Cl.c rfl) (OneC.c rfl) (by first | omega | (simp only [List.length_set]; omega)) ⟨Gh.le_refl _, PickC.pick, ?_⟩)
            refine RH.nil ?_
            refine WP.region ?_
            refine RG.pv rfl (PV.mvI (.inl rfl) rfl) ?_
            refine RG.pv rfl (PV.sub rfl rfl rfl (by omega)) ?_
            refine RG.pv rfl (PV.mvI (.inr rfl) rfl) ?_
            refine RG.nil ?_
            exact ⟨rfl, (j - 1), (swpL ys j.toNat (j.toNat - 1)), ⟨by omega, by rw [swpL_len]; exact hyl, by rw [ej]; exact hy⟩, ⟨rfl, trivial⟩, ⟨rfl, rfl, rfl, rfl, trivial⟩, Cv.p, by omega⟩
          · refine RH.ot rfl rfl (OT.pv (PV.loadE1 rfl Sc2 rfl rfl (El.o (getG (by omega))) rfl) ⟨Gh.le_refl _, PickC.pick, ?_⟩)
            refine RH.ot rfl rfl (OT.pv (PV.idxS (j := j.toNat) (v := v) rfl Is26 rfl SlF.o rfl (by first | omega | (simp only [List.length_set]; omega)) (by first | omega | (simp only [List.length_set]; omega))) ⟨Gh.le_refl _, PickC.pick, ?_⟩)
            refine RH.ot rfl rfl (OT.storeE (F := intT) rfl Sz2 rfl rfl rfl (Cl.c rfl) (OneC.c rfl) (by first | omega | (simp only [List.length_set]; omega)) ⟨Gh.le_refl _, PickC.pick, ?_⟩)
            refine RH.ot rfl rfl (OT.pv (PV.idxS (j := j.toNat - 1) (v := v) rfl Is26 rfl SlF.o rfl (by first | omega | (simp only [List.length_set]; omega)) (by first | omega | (simp only [List.length_set]; omega))) ⟨Gh.le_refl _, PickC.pick, ?_⟩)
            refine RH.ot rfl rfl (OT.storeE (F := intT) rfl Sz2 rfl rfl rfl (Cl.c rfl) (OneC.c rfl) (by first | omega | (simp only [List.length_set]; omega)) ⟨Gh.le_refl _, PickC.pick, ?_⟩)
            refine RH.nil ?_
            refine WP.region ?_
            refine RG.pv rfl (PV.mvI (.inl rfl) rfl) ?_
            refine RG.pv rfl (PV.sub rfl rfl rfl (by omega)) ?_
            refine RG.pv rfl (PV.mvI (.inr rfl) rfl) ?_
            refine RG.nil ?_
            exact ⟨rfl, (j - 1), (swpL ys j.toNat (j.toNat - 1)), ⟨by omega, by rw [swpL_len]; exact hyl, by rw [ej]; exact hy⟩, ⟨rfl, trivial⟩, ⟨rfl, rfl, rfl, rfl, trivial⟩, Cv.p, by omega⟩
      · refine RH.ot2 rfl rfl rfl rfl  (OT.pv (PV.idxS (j := j.toNat - 1) (v := v) rfl Is26 rfl SlF.o rfl (by first | omega | (simp only [List.length_set]; omega)) (by first | omega | (simp only [List.length_set]; omega))) ⟨Gh.le_refl _, PickC.pick, ?_⟩) (OT.pv (PV.loadE1 rfl Sc2 rfl rfl (El.o (getG (by omega))) rfl) ⟨Gh.le_refl _, PickC.pick, ?_⟩)
        · refine RH.ot2 rfl rfl rfl rfl  (OT.pv (PV.loadE1 rfl Sc2 rfl rfl (El.o (getG (by omega))) rfl) ⟨Gh.le_refl _, PickC.pick, ?_⟩) (OT.pv (PV.loadE1 rfl Sc2 rfl rfl (El.o (getG (by omega))) rfl) ⟨Gh.le_refl _, PickC.pick, ?_⟩)
          · refine RH.ot rfl rfl (OT.pv (PV.loadE1 rfl Sc2 rfl rfl (El.o (getG (by omega))) rfl) ⟨Gh.le_refl _, PickC.pick, ?_⟩)
            refine RH.ot rfl rfl (OT.pv (PV.idxS (j := j.toNat) (v := v) rfl Is26 rfl SlF.o rfl (by first | omega | (simp only [List.length_set]; omega)) (by first | omega | (simp only [List.length_set]; omega))) ⟨Gh.le_refl _, PickC.pick, ?_⟩)
            refine RH.ot rfl rfl (OT.storeE (F := intT) rfl Sz2 rfl rfl rfl (Cl.c rfl) (OneC.c rfl) (by first | omega | (simp only [List.length_set]; omega)) ⟨Gh.le_refl _, PickC.pick, ?_⟩)
            refine RH.ot rfl rfl (OT.pv (PV.idxS (j := j.toNat - 1) (v := v) rfl Is26 rfl SlF.o rfl (by first | omega | (simp only [List.length_set]; omega)) (by first | omega | (simp only [List.length_set]; omega))) ⟨Gh.le_refl _, PickC.pick, ?_⟩)
            refine RH.ot rfl rfl (OT.storeE (F := intT) rfl Sz2 rfl rfl rfl (Cl.c rfl) (OneC.c rfl) (by first | omega | (simp only [List.length_set]; omega)) ⟨Gh.le_refl _, PickC.pick, ?_⟩)
            refine RH.nil ?_
            refine WP.region ?_
            refine RG.pv rfl (PV.mvI (.inl rfl) rfl) ?_
            refine RG.pv rfl (PV.sub rfl rfl rfl (by omega)) ?_
            refine RG.pv rfl (PV.mvI (.inr rfl) rfl) ?_
            refine RG.nil ?_
            exact ⟨rfl, (j - 1), (swpL ys j.toNat (j.toNat - 1)), ⟨by omega, by rw [swpL_len]; exact hyl, by rw [ej]; exact hy⟩, ⟨rfl, trivial⟩, ⟨rfl, rfl, rfl, rfl, trivial⟩, Cv.p, by omega⟩
          · refine RH.ot rfl rfl (OT.pv (PV.loadE1 rfl Sc2 rfl rfl (El.o (getG (by omega))) rfl) ⟨Gh.le_refl _, PickC.pick, ?_⟩)
            refine RH.ot rfl rfl (OT.pv (PV.idxS (j := j.toNat) (v := v) rfl Is26 rfl SlF.o rfl (by first | omega | (simp only [List.length_set]; omega)) (by first | omega | (simp only [List.length_set]; omega))) ⟨Gh.le_refl _, PickC.pick, ?_⟩)
            refine RH.ot rfl rfl (OT.storeE (F := intT) rfl Sz2 rfl rfl rfl (Cl.c rfl) (OneC.c rfl) (by first | omega | (simp only [List.length_set]; omega)) ⟨Gh.le_refl _, PickC.pick, ?_⟩)
            refine RH.ot rfl rfl (OT.pv (PV.idxS (j := j.toNat - 1) (v := v) rfl Is26 rfl SlF.o rfl (by first | omega | (simp only [List.length_set]; omega)) (by first | omega | (simp only [List.length_set]; omega))) ⟨Gh.le_refl _, PickC.pick, ?_⟩)
            refine RH.ot rfl rfl (OT.storeE (F := intT) rfl Sz2 rfl rfl rfl (Cl.c rfl) (OneC.c rfl) (by first | omega | (simp only [List.length_set]; omega)) ⟨Gh.le_refl _, PickC.pick, ?_⟩)
            refine RH.nil ?_
            refine WP.region ?_
            refine RG.pv rfl (PV.mvI (.inl rfl) rfl) ?_
            refine RG.pv rfl (PV.sub rfl rfl rfl (by omega)) ?_
            refine RG.pv rfl (PV.mvI (.inr rfl) rfl) ?_
            refine RG.nil ?_
            exact ⟨rfl, (j - 1), (swpL ys j.toNat (j.toNat - 1)), ⟨by omega, by rw [swpL_len]; exact hyl, by rw [ej]; exact hy⟩, ⟨rfl, trivial⟩, ⟨rfl, rfl, rfl, rfl, trivial⟩, Cv.p, by omega⟩
        · refine RH.ot rfl rfl (OT.pv (PV.idxS (j := j.toNat - 1) (v := v) rfl Is26 rfl SlF.o rfl (by first | omega | (simp only [List.length_set]; omega)) (by first | omega | (simp only [List.length_set]; omega))) ⟨Gh.le_refl _, PickC.pick, ?_⟩)
          refine RH.ot rfl rfl (OT.pv (PV.loadE1 rfl Sc2 rfl rfl (El.o (getG (by omega))) rfl) ⟨Gh.le_refl _, PickC.pick, ?_⟩)
          refine RH.ot rfl rfl (OT.pv (PV.idxS (j := j.toNat) (v := v) rfl Is26 rfl SlF.o rfl (by first | omega | (simp only [List.length_set]; omega)) (by first | omega | (simp only [List.length_set]; omega))) ⟨Gh.le_refl _, PickC.pick, ?_⟩)
          refine RH.ot rfl rfl (OT.storeE (F := intT) rfl Sz2 rfl rfl rfl (Cl.c rfl) (OneC.c rfl) (by first | omega | (simp only [List.length_set]; omega)) ⟨Gh.le_refl _, PickC.pick, ?_⟩)
          refine RH.ot rfl rfl (OT.pv (PV.idxS (j := j.toNat - 1) (v := v) rfl Is26 rfl SlF.o rfl (by first | omega | (simp only [List.length_set]; omega)) (by first | omega | (simp only [List.length_set]; omega))) ⟨Gh.le_refl _, PickC.pick, ?_⟩)
          refine RH.ot rfl rfl (OT.storeE (F := intT) rfl Sz2 rfl rfl rfl (Cl.c rfl) (OneC.c rfl) (by first | omega | (simp only [List.length_set]; omega)) ⟨Gh.le_refl _, PickC.pick, ?_⟩)
          refine RH.nil ?_
          refine WP.region ?_
          refine RG.pv rfl (PV.mvI (.inl rfl) rfl) ?_
          refine RG.pv rfl (PV.sub rfl rfl rfl (by omega)) ?_
          refine RG.pv rfl (PV.mvI (.inr rfl) rfl) ?_
          refine RG.nil ?_
          exact ⟨rfl, (j - 1), (swpL ys j.toNat (j.toNat - 1)), ⟨by omega, by rw [swpL_len]; exact hyl, by rw [ej]; exact hy⟩, ⟨rfl, trivial⟩, ⟨rfl, rfl, rfl, rfl, trivial⟩, Cv.p, by omega⟩
    · have h3' : ¬ a < j.toNat ∨ lt_int (gd ys j.toNat) (gd ys (j.toNat - 1)) = false := by
        by_cases c : a < j.toNat
        · right
          have hc : (j > (a : Int)) := by omega
          simpa [hc] using h3
        · exact .inl c
      rw [insInner_f h3'] at hy
      refine WP.exit ?_
      refine WP.region ?_
      refine RG.pv rfl (PV.mvI (.inl rfl) rfl) ?_
      refine RG.pv rfl (PV.add rfl rfl rfl (by omega)) ?_
      refine RG.pv rfl (PV.mvI (.inr rfl) rfl) ?_
      refine RG.nil ?_
      exact ⟨rfl, (i + 1), ys, ⟨by omega, hyl, by rw [← hz, insOuter_t hib, ← hy]⟩, ⟨rfl, trivial⟩, ⟨rfl, rfl, rfl, trivial⟩, Cv.p, by omega⟩
  · have h2 := of_decide_eq_false h2
    have hib : ¬ i < b := by omega
    have e : zs = insL lt_int a b xs := by rw [insOuter_f hib] at hz; rw [insL, Sort.insertionSort, ← hz]
    rw [← e] at k
    refine WP.exit ?_
    exact ⟨_, _, ResV.zero rfl, Cv.p, k⟩
theorem ins_str {v : Value} {xs : List ByteArray} {a b : Nat} (hab : a ≤ b) (hb : b ≤ xs.length) (hl : xs.length ≤ 1000000) (k : R (.tuple #[]) G (osl 9 strT v (insL lt_str a b xs) :: L)) : CallT Tryz.prog 165 #[v, vi a, vi b] G (osl 9 strT v xs :: L) R := by
  refine CallT.enter (args := _) Tryz.func165 rfl rfl (by kernel_rfl) rfl ?_
  refine WP.seq ?_
  refine WP.region ?_
  refine RG.pv rfl (PV.mvI (.inl rfl) rfl) ?_
  refine RG.pv rfl (PV.add rfl rfl rfl (by omega)) ?_
  refine RG.pv rfl (PV.mvI (.inr rfl) rfl) ?_
  refine RG.nil ?_
  refine WP.block ?_
  refine WP.loop2 [0, 1, 2] (fun (i : Nat) (zs : List ByteArray) => i ≤ max b (a + 1) ∧ zs.length = xs.length ∧ Sort.insOuter lt_str a b i zs.toArray = Sort.insOuter lt_str a b (a + 1) xs.toArray) (fun (i : Nat) (zs : List ByteArray) => [(6, vi i)]) (fun (i : Nat) (zs : List ByteArray) => osl 9 strT v zs :: L) (fun (i : Nat) (zs : List ByteArray) => b + 1 - i) (a + 1) xs ⟨by omega, rfl, rfl⟩ ⟨rfl, trivial⟩ Cv.p ?_
  rintro i zs τ ⟨hi, hzl, hz⟩
  refine WP.seq ?_
  refine WP.seq ?_
  refine WP.region ?_
  refine RG.pv rfl (PV.mvI (.inl rfl) rfl) ?_
  refine RG.pv rfl (PV.mvI (.inl rfl) rfl) ?_
  refine RG.pv rfl (PV.lss rfl rfl rfl) ?_
  refine RG.nil ?_
  refine WP.cond rfl (fun h2 => ?_) (fun h2 => ?_)
  · have h2 := of_decide_eq_true h2
    have hib : i < b := by omega
    refine WP.skip ?_
    refine WP.seq ?_
    refine WP.block ?_
    refine WP.seq ?_
    refine WP.region ?_
    refine RG.pv rfl (PV.mvI (.inl rfl) rfl) ?_
    refine RG.pv rfl (PV.mvI (.inr rfl) rfl) ?_
    refine RG.nil ?_
    refine WP.block ?_
    refine WP.loop2 [0, 1, 2, 6] (fun (j : Int) (ys : List ByteArray) => (0 ≤ j ∧ j ≤ i) ∧ ys.length = xs.length ∧ Sort.insInner lt_str a j.toNat ys.toArray = Sort.insInner lt_str a i zs.toArray) (fun (j : Int) (ys : List ByteArray) => [(7, vi j)]) (fun (j : Int) (ys : List ByteArray) => osl 9 strT v ys :: L) (fun (j : Int) (ys : List ByteArray) => j.toNat) i zs ⟨by omega, hzl, rfl⟩ ⟨rfl, trivial⟩ Cv.p ?_
    rintro j ys τ1 ⟨hj, hyl, hy⟩
    refine WP.seq ?_
    refine WP.seq ?_
    refine WP.regionQ (by kernel_rfl) (by kernel_rfl) ?_
    refine RQ.pv rfl (PV.mvI (.inl rfl) rfl) ?_
    refine RQ.pv rfl (PV.mvI (.inl rfl) rfl) ?_
    refine RQ.pv rfl (PV.gtr rfl rfl rfl) ?_
    refine RQ.pv rfl (PV.mvB (.inl rfl) rfl) ?_
    refine RQ.gs rfl rfl rfl (fun hp => (PV.move (v := v) rfl rfl)) ?_
    refine RQ.gs rfl rfl rfl (fun hp => (PV.mvI (.inl rfl) rfl)) ?_
    refine RQ.gs rfl rfl rfl (fun hp => (PV.idxS (j := j.toNat) (v := v) rfl Is45 (gs_t hp) SlF.o (gs_t hp) (by first | omega | (simp at hp; omega)) (by first | omega | (simp at hp; omega)))) ?_
    refine RQ.gs rfl rfl rfl (fun hp => (PV.loadE1 rfl Sc9 (gs_t hp) rfl (El.o (getG (by first | omega | (simp at hp; omega)))) rfl)) ?_
    refine RQ.gs rfl rfl rfl (fun hp => (PV.move (v := v) rfl rfl)) ?_
    refine RQ.gs rfl rfl rfl (fun hp => (PV.mvI (.inl rfl) rfl)) ?_
    refine RQ.gs rfl rfl rfl (fun hp => (PV.sub rfl (gs_t hp) rfl (by first | omega | (simp at hp; omega)))) ?_
    refine RQ.gs rfl rfl rfl (fun hp => (PV.idxS (j := j.toNat - 1) (v := v) rfl Is45 (gs_t hp) SlF.o (gs_t hp) (by first | omega | (simp at hp; omega)) (by first | omega | (simp at hp; omega)))) ?_
    refine RQ.gs rfl rfl rfl (fun hp => (PV.loadE1 rfl Sc9 (gs_t hp) rfl (El.o (getG (by first | omega | (simp at hp; omega)))) rfl)) ?_
    refine RQ.gsC rfl rfl rfl rfl En171 (fun hp => ⟨_, (acons (gs_t hp) (acons (gs_t hp) anil)), less_str ⟨rfl, rfl, rfl⟩⟩) ?_
    refine RQ.pv rfl (PV.pickA rfl rfl (fun hq => gs_t (geqT hq)) rfl) ?_
    refine RQ.nil ?_
    refine WP.cond rfl (fun h3 => ?_) (fun h3 => ?_)
    · simp only [Bool.and_eq_true, decide_eq_true_eq] at h3
      have h3 := h3
      have haj : a < j.toNat := by omega
      rw [insInner_t haj h3.2] at hy
      have ej : (j - 1).toNat = j.toNat - 1 := by omega
      refine WP.skip ?_
      refine WP.seq ?_
      refine WP.block ?_
      refine WP.regionHD [.s v] (.q 0 (.q 1 (.q 2 (.q 3 (.q 4 (.q 5 (.q 6 (.q 7 (.q 10 (.q 11 (.b 8 (.b 9 (.l 12 (.l 13 (.l 14 (.l 15 (.l 16 (.l 17 Sch.nil)))))) 12 (.b 9 (.l 13 (.l 14 (.l 15 (.l 16 (.l 17 Sch.nil))))) 13 (.l 9 (.l 14 (.l 15 (.l 16 (.l 17 Sch.nil))))))) 12 (.b 8 (.b 9 (.l 13 (.l 14 (.l 15 (.l 16 (.l 17 Sch.nil))))) 13 (.l 9 (.l 14 (.l 15 (.l 16 (.l 17 Sch.nil)))))) 13 (.l 8 (.l 9 (.l 14 (.l 15 (.l 16 (.l 17 Sch.nil)))))))))))))))))) (by kernel_rfl) (by kernel_rfl) (by kernel_rfl) rfl ?_
      refine RH.pv rfl (fun _ _ _ _ h => h) (Gh.le_refl _) PickC.pick rfl (PV.move (v := v) rfl rfl) ?_
      refine RH.pv rfl (fun _ _ _ _ h => h) (Gh.le_refl _) PickC.pick rfl (PV.mvI (.inl rfl) rfl) ?_
      refine RH.pv rfl (fun _ _ _ _ h => h) (Gh.le_refl _) PickC.pick rfl (PV.move (v := v) rfl rfl) ?_
      refine RH.pv rfl (fun _ _ _ _ h => h) (Gh.le_refl _) PickC.pick rfl (PV.mvI (.inl rfl) rfl) ?_
      refine RH.pv rfl (fun _ _ _ _ h => h) (Gh.le_refl _) PickC.pick rfl (PV.sub rfl rfl rfl (by omega)) ?_
      refine RH.pv rfl (fun _ _ _ _ h => h) (Gh.le_refl _) PickC.pick rfl (PV.move (v := v) rfl rfl) ?_
      refine RH.pv rfl (fun _ _ _ _ h => h) (Gh.le_refl _) PickC.pick rfl (PV.mvI (.inl rfl) rfl) ?_
      refine RH.pv rfl (fun _ _ _ _ h => h) (Gh.le_refl _) PickC.pick rfl (PV.sub rfl rfl rfl (by omega)) ?_
      refine RH.pv rfl (fun _ _ _ _ h => h) (Gh.le_refl _) PickC.pick rfl (PV.move (v := v) rfl rfl) ?_
      refine RH.pv rfl (fun _ _ _ _ h => h) (Gh.le_refl _) PickC.pick rfl (PV.mvI (.inl rfl) rfl) ?_
      refine RH.ot2 rfl rfl rfl rfl  (OT.pv (PV.idxS (j := j.toNat - 1) (v := v) rfl Is45 rfl SlF.o rfl (by first | omega | (simp only [List.length_set]; omega)) (by first | omega | (simp only [List.length_set]; omega))) ⟨Gh.le_refl _, PickC.pick, ?_⟩) (OT.pv (PV.idxS (j := j.toNat) (v := v) rfl Is45 rfl SlF.o rfl (by first | omega | (simp only [List.length_set]; omega)) (by first | omega | (simp only [List.length_set]; omega))) ⟨Gh.le_refl _, PickC.pick, ?_⟩)
      · refine RH.ot2 rfl rfl rfl rfl  (OT.pv (PV.loadE1 rfl Sc9 rfl rfl (El.o (getG (by omega))) rfl) ⟨Gh.le_refl _, PickC.pick, ?_⟩) (OT.pv (PV.idxS (j := j.toNat) (v := v) rfl Is45 rfl SlF.o rfl (by first | omega | (simp only [List.length_set]; omega)) (by first | omega | (simp only [List.length_set]; omega))) ⟨Gh.le_refl _, PickC.pick, ?_⟩)
        · refine RH.ot rfl rfl (OT.pv (PV.idxS (j := j.toNat) (v := v) rfl Is45 rfl SlF.o rfl (by first | omega | (simp only [List.length_set]; omega)) (by first | omega | (simp only [List.length_set]; omega))) ⟨Gh.le_refl _, PickC.pick, ?_⟩)
          refine RH.ot rfl rfl (OT.pv (PV.loadE1 rfl Sc9 rfl rfl (El.o (getG (by omega))) rfl) ⟨Gh.le_refl _, PickC.pick, ?_⟩)
          refine RH.ot rfl rfl (OT.pv (PV.idxS (j := j.toNat) (v := v) rfl Is45 rfl SlF.o rfl (by first | omega | (simp only [List.length_set]; omega)) (by first | omega | (simp only [List.length_set]; omega))) ⟨Gh.le_refl _, PickC.pick, ?_⟩)
          refine RH.ot rfl rfl (OT.storeE (F := strT) rfl Sz9 rfl rfl rfl (Cl.c rfl) (OneC.c rfl) (by first | omega | (simp only [List.length_set]; omega)) ⟨Gh.le_refl _, PickC.pick, ?_⟩)
          refine RH.ot rfl rfl (OT.pv (PV.idxS (j := j.toNat - 1) (v := v) rfl Is45 rfl SlF.o rfl (by first | omega | (simp only [List.length_set]; omega)) (by first | omega | (simp only [List.length_set]; omega))) ⟨Gh.le_refl _, PickC.pick, ?_⟩)
          refine RH.ot rfl rfl (OT.storeE (F := strT) rfl Sz9 rfl rfl rfl (Cl.c rfl) (OneC.c rfl) (by first | omega | (simp only [List.length_set]; omega)) ⟨Gh.le_refl _, PickC.pick, ?_⟩)
          refine RH.nil ?_
          refine WP.region ?_
          refine RG.pv rfl (PV.mvI (.inl rfl) rfl) ?_
          refine RG.pv rfl (PV.sub rfl rfl rfl (by omega)) ?_
          refine RG.pv rfl (PV.mvI (.inr rfl) rfl) ?_
          refine RG.nil ?_
          exact ⟨rfl, (j - 1), (swpL ys j.toNat (j.toNat - 1)), ⟨by omega, by rw [swpL_len]; exact hyl, by rw [ej]; exact hy⟩, ⟨rfl, trivial⟩, ⟨rfl, rfl, rfl, rfl, trivial⟩, Cv.p, by omega⟩
        · refine RH.ot2 rfl rfl rfl rfl  (OT.pv (PV.loadE1 rfl Sc9 rfl rfl (El.o (getG (by omega))) rfl) ⟨Gh.le_refl _, PickC.pick, ?_⟩) (OT.pv (PV.loadE1 rfl Sc9 rfl rfl (El.o (getG (by omega))) rfl) ⟨Gh.le_refl _, PickC.pick, ?_⟩)
          · refine RH.ot rfl rfl (OT.pv (PV.loadE1 rfl Sc9 rfl rfl (El.o (getG (by omega))) rfl) ⟨Gh.le_refl _, PickC.pick, ?_⟩)
            refine RH.ot rfl rfl (OT.pv (PV.idxS (j := j.toNat) (v := v) rfl Is45 rfl SlF.o rfl (by first | omega | (simp only [List.length_set]; omega)) (by first | omega | (simp only [List.length_set]; omega))) ⟨Gh.le_refl _, PickC.pick, ?_⟩)
            refine RH.ot rfl rfl (OT.storeE (F := strT) rfl Sz9 rfl rfl rfl (Cl.c rfl) (OneC.c rfl) (by first | omega | (simp only [List.length_set]; omega)) ⟨Gh.le_refl _, PickC.pick, ?_⟩)
            refine RH.ot rfl rfl (OT.pv (PV.idxS (j := j.toNat - 1) (v := v) rfl Is45 rfl SlF.o rfl (by first | omega | (simp only [List.length_set]; omega)) (by first | omega | (simp only [List.length_set]; omega))) ⟨Gh.le_refl _, PickC.pick, ?_⟩)
            refine RH.ot rfl rfl (OT.storeE (F := strT) rfl Sz9 rfl rfl rfl (Cl.c rfl) (OneC.c rfl) (by first | omega | (simp only [List.length_set]; omega)) ⟨Gh.le_refl _, PickC.pick, ?_⟩)
            refine RH.nil ?_
            refine WP.region ?_
            refine RG.pv rfl (PV.mvI (.inl rfl) rfl) ?_
            refine RG.pv rfl (PV.sub rfl rfl rfl (by omega)) ?_
            refine RG.pv rfl (PV.mvI (.inr rfl) rfl) ?_
            refine RG.nil ?_
            exact ⟨rfl, (j - 1), (swpL ys j.toNat (j.toNat - 1)), ⟨by omega, by rw [swpL_len]; exact hyl, by rw [ej]; exact hy⟩, ⟨rfl, trivial⟩, ⟨rfl, rfl, rfl, rfl, trivial⟩, Cv.p, by omega⟩
          · refine RH.ot rfl rfl (OT.pv (PV.loadE1 rfl Sc9 rfl rfl (El.o (getG (by omega))) rfl) ⟨Gh.le_refl _, PickC.pick, ?_⟩)
            refine RH.ot rfl rfl (OT.pv (PV.idxS (j := j.toNat) (v := v) rfl Is45 rfl SlF.o rfl (by first | omega | (simp only [List.length_set]; omega)) (by first | omega | (simp only [List.length_set]; omega))) ⟨Gh.le_refl _, PickC.pick, ?_⟩)
            refine RH.ot rfl rfl (OT.storeE (F := strT) rfl Sz9 rfl rfl rfl (Cl.c rfl) (OneC.c rfl) (by first | omega | (simp only [List.length_set]; omega)) ⟨Gh.le_refl _, PickC.pick, ?_⟩)
            refine RH.ot rfl rfl (OT.pv (PV.idxS (j := j.toNat - 1) (v := v) rfl Is45 rfl SlF.o rfl (by first | omega | (simp only [List.length_set]; omega)) (by first | omega | (simp only [List.length_set]; omega))) ⟨Gh.le_refl _, PickC.pick, ?_⟩)
            refine RH.ot rfl rfl (OT.storeE (F := strT) rfl Sz9 rfl rfl rfl (Cl.c rfl) (OneC.c rfl) (by first | omega | (simp only [List.length_set]; omega)) ⟨Gh.le_refl _, PickC.pick, ?_⟩)
            refine RH.nil ?_
            refine WP.region ?_
            refine RG.pv rfl (PV.mvI (.inl rfl) rfl) ?_
            refine RG.pv rfl (PV.sub rfl rfl rfl (by omega)) ?_
            refine RG.pv rfl (PV.mvI (.inr rfl) rfl) ?_
            refine RG.nil ?_
            exact ⟨rfl, (j - 1), (swpL ys j.toNat (j.toNat - 1)), ⟨by omega, by rw [swpL_len]; exact hyl, by rw [ej]; exact hy⟩, ⟨rfl, trivial⟩, ⟨rfl, rfl, rfl, rfl, trivial⟩, Cv.p, by omega⟩
      · refine RH.ot2 rfl rfl rfl rfl  (OT.pv (PV.idxS (j := j.toNat - 1) (v := v) rfl Is45 rfl SlF.o rfl (by first | omega | (simp only [List.length_set]; omega)) (by first | omega | (simp only [List.length_set]; omega))) ⟨Gh.le_refl _, PickC.pick, ?_⟩) (OT.pv (PV.loadE1 rfl Sc9 rfl rfl (El.o (getG (by omega))) rfl) ⟨Gh.le_refl _, PickC.pick, ?_⟩)
        · refine RH.ot2 rfl rfl rfl rfl  (OT.pv (PV.loadE1 rfl Sc9 rfl rfl (El.o (getG (by omega))) rfl) ⟨Gh.le_refl _, PickC.pick, ?_⟩) (OT.pv (PV.loadE1 rfl Sc9 rfl rfl (El.o (getG (by omega))) rfl) ⟨Gh.le_refl _, PickC.pick, ?_⟩)
          · refine RH.ot rfl rfl (OT.pv (PV.loadE1 rfl Sc9 rfl rfl (El.o (getG (by omega))) rfl) ⟨Gh.le_refl _, PickC.pick, ?_⟩)
            refine RH.ot rfl rfl (OT.pv (PV.idxS (j := j.toNat) (v := v) rfl Is45 rfl SlF.o rfl (by first | omega | (simp only [List.length_set]; omega)) (by first | omega | (simp only [List.length_set]; omega))) ⟨Gh.le_refl _, PickC.pick, ?_⟩)
            refine RH.ot rfl rfl (OT.storeE (F := strT) rfl Sz9 rfl rfl rfl (Cl.c rfl) (OneC.c rfl) (by first | omega | (simp only [List.length_set]; omega)) ⟨Gh.le_refl _, PickC.pick, ?_⟩)
            refine RH.ot rfl rfl (OT.pv (PV.idxS (j := j.toNat - 1) (v := v) rfl Is45 rfl SlF.o rfl (by first | omega | (simp only [List.length_set]; omega)) (by first | omega | (simp only [List.length_set]; omega))) ⟨Gh.le_refl _, PickC.pick, ?_⟩)
            refine RH.ot rfl rfl (OT.storeE (F := strT) rfl Sz9 rfl rfl rfl (Cl.c rfl) (OneC.c rfl) (by first | omega | (simp only [List.length_set]; omega)) ⟨Gh.le_refl _, PickC.pick, ?_⟩)
            refine RH.nil ?_
            refine WP.region ?_
            refine RG.pv rfl (PV.mvI (.inl rfl) rfl) ?_
            refine RG.pv rfl (PV.sub rfl rfl rfl (by omega)) ?_
            refine RG.pv rfl (PV.mvI (.inr rfl) rfl) ?_
            refine RG.nil ?_
            exact ⟨rfl, (j - 1), (swpL ys j.toNat (j.toNat - 1)), ⟨by omega, by rw [swpL_len]; exact hyl, by rw [ej]; exact hy⟩, ⟨rfl, trivial⟩, ⟨rfl, rfl, rfl, rfl, trivial⟩, Cv.p, by omega⟩
          · refine RH.ot rfl rfl (OT.pv (PV.loadE1 rfl Sc9 rfl rfl (El.o (getG (by omega))) rfl) ⟨Gh.le_refl _, PickC.pick, ?_⟩)
            refine RH.ot rfl rfl (OT.pv (PV.idxS (j := j.toNat) (v := v) rfl Is45 rfl SlF.o rfl (by first | omega | (simp only [List.length_set]; omega)) (by first | omega | (simp only [List.length_set]; omega))) ⟨Gh.le_refl _, PickC.pick, ?_⟩)
            refine RH.ot rfl rfl (OT.storeE (F := strT) rfl Sz9 rfl rfl rfl (Cl.c rfl) (OneC.c rfl) (by first | omega | (simp only [List.length_set]; omega)) ⟨Gh.le_refl _, PickC.pick, ?_⟩)
            refine RH.ot rfl rfl (OT.pv (PV.idxS (j := j.toNat - 1) (v := v) rfl Is45 rfl SlF.o rfl (by first | omega | (simp only [List.length_set]; omega)) (by first | omega | (simp only [List.length_set]; omega))) ⟨Gh.le_refl _, PickC.pick, ?_⟩)
            refine RH.ot rfl rfl (OT.storeE (F := strT) rfl Sz9 rfl rfl rfl (Cl.c rfl) (OneC.c rfl) (by first | omega | (simp only [List.length_set]; omega)) ⟨Gh.le_refl _, PickC.pick, ?_⟩)
            refine RH.nil ?_
            refine WP.region ?_
            refine RG.pv rfl (PV.mvI (.inl rfl) rfl) ?_
            refine RG.pv rfl (PV.sub rfl rfl rfl (by omega)) ?_
            refine RG.pv rfl (PV.mvI (.inr rfl) rfl) ?_
            refine RG.nil ?_
            exact ⟨rfl, (j - 1), (swpL ys j.toNat (j.toNat - 1)), ⟨by omega, by rw [swpL_len]; exact hyl, by rw [ej]; exact hy⟩, ⟨rfl, trivial⟩, ⟨rfl, rfl, rfl, rfl, trivial⟩, Cv.p, by omega⟩
        · refine RH.ot rfl rfl (OT.pv (PV.idxS (j := j.toNat - 1) (v := v) rfl Is45 rfl SlF.o rfl (by first | omega | (simp only [List.length_set]; omega)) (by first | omega | (simp only [List.length_set]; omega))) ⟨Gh.le_refl _, PickC.pick, ?_⟩)
          refine RH.ot rfl rfl (OT.pv (PV.loadE1 rfl Sc9 rfl rfl (El.o (getG (by omega))) rfl) ⟨Gh.le_refl _, PickC.pick, ?_⟩)
          refine RH.ot rfl rfl (OT.pv (PV.idxS (j := j.toNat) (v := v) rfl Is45 rfl SlF.o rfl (by first | omega | (simp only [List.length_set]; omega)) (by first | omega | (simp only [List.length_set]; omega))) ⟨Gh.le_refl _, PickC.pick, ?_⟩)
          refine RH.ot rfl rfl (OT.storeE (F := strT) rfl Sz9 rfl rfl rfl (Cl.c rfl) (OneC.c rfl) (by first | omega | (simp only [List.length_set]; omega)) ⟨Gh.le_refl _, PickC.pick, ?_⟩)
          refine RH.ot rfl rfl (OT.pv (PV.idxS (j := j.toNat - 1) (v := v) rfl Is45 rfl SlF.o rfl (by first | omega | (simp only [List.length_set]; omega)) (by first | omega | (simp only [List.length_set]; omega))) ⟨Gh.le_refl _, PickC.pick, ?_⟩)
          refine RH.ot rfl rfl (OT.storeE (F := strT) rfl Sz9 rfl rfl rfl (Cl.c rfl) (OneC.c rfl) (by first | omega | (simp only [List.length_set]; omega)) ⟨Gh.le_refl _, PickC.pick, ?_⟩)
          refine RH.nil ?_
          refine WP.region ?_
          refine RG.pv rfl (PV.mvI (.inl rfl) rfl) ?_
          refine RG.pv rfl (PV.sub rfl rfl rfl (by omega)) ?_
          refine RG.pv rfl (PV.mvI (.inr rfl) rfl) ?_
          refine RG.nil ?_
          exact ⟨rfl, (j - 1), (swpL ys j.toNat (j.toNat - 1)), ⟨by omega, by rw [swpL_len]; exact hyl, by rw [ej]; exact hy⟩, ⟨rfl, trivial⟩, ⟨rfl, rfl, rfl, rfl, trivial⟩, Cv.p, by omega⟩
    · have h3' : ¬ a < j.toNat ∨ lt_str (gd ys j.toNat) (gd ys (j.toNat - 1)) = false := by
        by_cases c : a < j.toNat
        · right
          have hc : (j > (a : Int)) := by omega
          simpa [hc] using h3
        · exact .inl c
      rw [insInner_f h3'] at hy
      refine WP.exit ?_
      refine WP.region ?_
      refine RG.pv rfl (PV.mvI (.inl rfl) rfl) ?_
      refine RG.pv rfl (PV.add rfl rfl rfl (by omega)) ?_
      refine RG.pv rfl (PV.mvI (.inr rfl) rfl) ?_
      refine RG.nil ?_
      exact ⟨rfl, (i + 1), ys, ⟨by omega, hyl, by rw [← hz, insOuter_t hib, ← hy]⟩, ⟨rfl, trivial⟩, ⟨rfl, rfl, rfl, trivial⟩, Cv.p, by omega⟩
  · have h2 := of_decide_eq_false h2
    have hib : ¬ i < b := by omega
    have e : zs = insL lt_str a b xs := by rw [insOuter_f hib] at hz; rw [insL, Sort.insertionSort, ← hz]
    rw [← e] at k
    refine WP.exit ?_
    exact ⟨_, _, ResV.zero rfl, Cv.p, k⟩
end Go.Proofs.YtmomfgfmnpblpaaGreat
namespace Go.Proofs.YtmomfgfmnpblpaaGreat
set_option linter.unusedVariables false
set_option linter.unusedSimpArgs false
open Go
theorem zeroCells_one (z : Value) (n : Nat) : (Builtin.zeroCells #[z] n).toList = List.replicate n z := by
  apply List.ext_getElem
  · simp [Builtin.zeroCells]
  · intro i h1 h2
    simp [Builtin.zeroCells, Nat.mod_one]
theorem flat_rep {α : Type} {F : FT α} {a : α} {z : Value} (h : F.enc a = [z]) : ∀ n, F.flat (List.replicate n a) = List.replicate n z
  | 0 => rfl
  | n + 1 => by
    have ih := flat_rep h n
    simp only [FT.flat] at ih ⊢
    rw [List.replicate_succ, List.flatMap_cons, ih, h, List.replicate_succ, List.singleton_append]
section
variable {P : Program} {n : Nat} {σ : Nat → Value} {G : Gh} {L : List Ch} {o : Oper} {t : TypeId} {x : Operand} {v : Value} {K : (Nat → Value) → Gh → List Ch → Prop}
theorem OT.clr {α : Type} {F : FT α} {e : TypeId} {bytes : Nat} {z : Value} {z0 : α} {zs : List α} {k : Nat} {L' : List Ch} (ho : o.op = .call { callee := .builtin .clear, args := #[x], argTypes := #[t] }) (hT : ElemT P t e F.sz bytes [z]) (hz : F.enc z0 = [z]) (hz1 : z.oneCell' = true)
    (hx : ev σ x = slv 1 v k zs.length) [hX : ExS v L α e F zs L'] (hk : k < zs.length) (K1 : K (updo σ o.dst (.tuple #[])) G (osl e F v (zs.take k ++ List.replicate (zs.length - k) z0) :: L')) : OT P n o σ G L K := by
  obtain ⟨hu1, i, zv, hi, hi1, hi2, hi3, hi4⟩ := hT
  have hsz : F.sz = 1 := by rw [← F.len z0, hz]; rfl
  refine OT.ofRun fun w hs => ?_
  have hb : ∃ b cap c, v = .slice (some ⟨b, 0, none⟩) zs.length cap ∧ wh w b = some (.cells c e (0, 0)) ∧ zs.length ≤ cap ∧ cap ≤ maxLen ∧ c.size = cap * F.sz ∧ c.toList.take (zs.length * F.sz) = F.flat zs := by
    obtain ⟨hp, s, l1, l2, d⟩ := hs
    obtain ⟨g1, g2, _, m1, _, cc, _⟩ := hX.ex.sep s
    rcases cc with ⟨_, rfl⟩ | ⟨b, cap, c, h1, h2, h3⟩
    · simp at hk
    · exact ⟨b, cap, c, h1, l2 _ _ (m1 _ _ h2), h3⟩
  obtain ⟨b, cap, c, rfl, hb, h3, h4, h5, h6⟩ := hb
  rw [hsz, Nat.mul_one] at h5 h6
  have hx' : ev σ x = .slice (some ⟨b, k, none⟩) (zs.length - k) (cap - k) := by
    rw [hx]; simp only [slv]; rw [if_neg (by omega)]; simp [add_none]
  have hone : ∀ u ∈ List.replicate (zs.length - k) z, u.oneCell' = true := fun u hu => by rw [List.eq_of_mem_replicate hu]; exact hz1
  obtain ⟨w', hr, hq, hw'⟩ := storeCells_run (P := P) (List.replicate (zs.length - k) z) b k 0 c e w hone hb (by simp; omega)
  have hzc : zv.cells = #[z] := by rw [← Array.toList_inj]; exact hi4
  have hfl : F.flat (zs.take k ++ List.replicate (zs.length - k) z0) = (F.flat zs).take k ++ List.replicate (zs.length - k) z := by
    have h1 : F.flat (zs.take k ++ List.replicate (zs.length - k) z0) = F.flat (zs.take k) ++ F.flat (List.replicate (zs.length - k) z0) := by simp [FT.flat]
    rw [h1, flat_rep hz, FT.flat_take, hsz, Nat.mul_one]
  have hlen : (zs.take k ++ List.replicate (zs.length - k) z0).length = zs.length := by simp; omega
  refine ⟨.tuple #[], G, _, w', ?_, hs.set hq hX.ex (b := b) (fun h hh => ?_) hw' (c' := osl e F (.slice (some ⟨b, 0, none⟩) zs.length cap) (zs.take k ++ List.replicate (zs.length - k) z0)) (fun h hh _ => ?_), K1⟩
  · have hn : zs.length - k ≠ 0 := by omega
    obtain ⟨m, hm⟩ : ∃ m, zs.length - k = m + 1 := ⟨zs.length - k - 1, by omega⟩
    have hrun : (Builtin.clear_ #[t] o.type #[.slice (some ⟨b, k, none⟩) (zs.length - k) (cap - k)]).run P w = .ok (.tuple #[]) w' := by
      rw [hm] at hr ⊢
      have hzr : (zeroValue e).run P w = .ok zv w := by simp [zeroValue, typeInfo, hi, hi3]
      simp [Builtin.clear_, run_underlying hu1, hzr, hzc, zeroCells_one, hr, Result.andThen]
    simp [execOp, ho, resolve, invoke, builtin, hx', hrun]
  · rcases hh with ⟨_, rfl⟩ | ⟨b', cap', c', h1, h2, _⟩
    · simp at hk
    · simp only [Value.slice.injEq, Option.some.injEq, Addr.mk.injEq] at h1
      obtain ⟨⟨rfl, _⟩, _⟩ := h1
      simp [h2]
  · refine .inr ⟨b, cap, (splice c.toList (k + 0) (List.replicate (zs.length - k) z)).toArray, by rw [hlen], by simp, by rw [hlen]; exact h3, h4, by rw [hsz, Nat.mul_one]; simp [splice_length, h5], ?_⟩
    rw [hlen, hsz, Nat.mul_one, hfl, Nat.add_zero]
    have hfn : (F.flat zs).length = zs.length := by rw [F.flat_len, hsz, Nat.mul_one]
    show List.take zs.length (splice c.toList k (List.replicate (zs.length - k) z)) = _
    rw [splice_take _ _ _ _ (by simp; omega) (by simp; omega), h6, splice_all _ _ _ (by simp; omega)]
theorem SlF.r0 {α : Type} {T : FT α} {v : Value} {xs : List α} (h : Rs G L T v xs) : SlF G L v xs.length := fun w hs => (h w hs).1
theorem El.r0 {α : Type} {T : FT α} {v : Value} {xs : List α} {i : Nat} {x : α} (h : Rs G L T v xs) (hi : xs[i]? = some x) : El G L T v i x := El.r (p := ⟨.refl L⟩) h hi
/-- an owned slice cut short -/
theorem Cv.cut {α : Type} {F : FT α} {e : TypeId} {zs : List α} {k : Nat} (hk : k ≤ zs.length) (h0 : 0 < zs.length) (hsz : F.sz = 1) : Cv (osl e F v zs :: L) (osl e F (slv 1 v 0 k) (zs.take k) :: L) := by
  rintro hp ⟨h1, h2, d, l1, l2, cc, s⟩
  refine ⟨h1, h2, d, l1, l2, ?_, s⟩
  rcases cc with ⟨_, rfl⟩ | ⟨b, cap, c, rfl, hb, h3, h4, h5, h6⟩
  · simp at h0
  · refine .inr ⟨b, cap, c, ?_, hb, by simp; omega, h4, h5, ?_⟩
    · simp only [slv]; rw [if_neg (by omega)]; simp [add_none, Nat.min_eq_left hk]
    · rw [FT.flat_take, ← h6, List.take_take, List.length_take, Nat.min_eq_left hk, hsz]
      congr 1; omega
end
end Go.Proofs.YtmomfgfmnpblpaaGreat
namespace Go.Proofs.YtmomfgfmnpblpaaGreat
set_option linter.unusedVariables false
set_option linter.unusedSimpArgs false
open Go
set_option maxRecDepth 20000
set_option linter.unusedSimpArgs false
variable {G : Gh} {L : List Ch} {R : Value → Gh → List Ch → Prop}
def cpt {α : Type} [Inhabited α] [DecidableEq α] (xs : List α) : Nat → List α
  | 0 => []
  | n + 1 => if n = 0 ∨ gd xs n ≠ gd xs (n - 1) then cpt xs n ++ [gd xs n] else cpt xs n
def compactL {α : Type} [Inhabited α] [DecidableEq α] (xs : List α) : List α := cpt xs xs.length
theorem cpt_take {α : Type} [Inhabited α] [DecidableEq α] {xs : List α} : ∀ {n : Nat}, n ≤ xs.length → (∀ j, 1 ≤ j → j < n → gd xs j ≠ gd xs (j - 1)) → cpt xs n = xs.take n
  | 0, _, _ => rfl
  | n + 1, h, hd => by
    rw [cpt, if_pos, cpt_take (by omega) (fun j h1 h2 => hd j h1 (by omega)), List.take_add_one, getG (by omega)]; · rfl
    by_cases c : n = 0
    · exact .inl c
    · exact .inr (hd n (by omega) (by omega))
theorem cpt_all {α : Type} [Inhabited α] [DecidableEq α] {xs : List α} (hd : ∀ j, 1 ≤ j → j < xs.length → gd xs j ≠ gd xs (j - 1)) : compactL xs = xs := by
  rw [compactL, cpt_take (Nat.le_refl _) hd, List.take_length]
theorem gd_part {α : Type} [Inhabited α] {ys : List α} {n m p : Nat} (h : n + p < m) : gd ((ys.take m).drop n) p = gd ys (n + p) := by
  unfold gd; rw [List.getElem?_drop, List.getElem?_take, if_pos h]
theorem compact_nil {α : Type} [Inhabited α] [DecidableEq α] {xs : List α} : compactL xs = [] ↔ xs = [] := by
  constructor
  · intro h
    cases xs with
    | nil => rfl
    | cons a xs =>
      exfalso
      have key : ∀ n, cpt (a :: xs) (n + 1) ≠ [] := by
        intro n
        induction n with
        | zero => simp [cpt]
        | succ n ih =>
          rw [cpt]; split
          · simp
          · exact ih
      exact key xs.length h
  · rintro rfl; rfl
theorem pdqs_int {v : Value} {l : Int} {xs : List Int} (hl : xs.length ≤ 12) (k : R (.tuple #[]) G (osl 2 intT v (insL lt_int 0 xs.length xs) :: L)) : CallT Tryz.prog 110 #[v, vi 0, vi xs.length, vi l] G (osl 2 intT v xs :: L) R := by
  refine CallT.enter (args := _) Tryz.func110 rfl rfl (by kernel_rfl) rfl ?_
  refine WP.seq ?_
  refine WP.region ?_
  refine RG.pv rfl (PV.mvB (.inr rfl) rfl) ?_
  refine RG.nil ?_
  refine WP.seq ?_
  refine WP.region ?_
  refine RG.pv rfl (PV.mvB (.inr rfl) rfl) ?_
  refine RG.nil ?_
  refine WP.block ?_
  refine WP.loop1 [0] (fun (u : Unit) => True) (fun (u : Unit) => [(1, vi 0), (2, vi xs.length), (3, vi l), (8, .bool true), (9, .bool true)]) (fun (u : Unit) => osl 2 intT v xs :: L) (fun (u : Unit) => 0) () trivial ⟨rfl, rfl, rfl, rfl, rfl, trivial⟩ Cv.p ?_
  rintro _u τ _
  refine WP.block ?_
  refine WP.seq ?_
  refine WP.region ?_
  refine RG.pv rfl (PV.mvI (.inl rfl) rfl) ?_
  refine RG.pv rfl (PV.mvI (.inl rfl) rfl) ?_
  refine RG.pv rfl (PV.sub rfl rfl rfl (by omega)) ?_
  refine RG.pv rfl (PV.mvI (.inr rfl) rfl) ?_
  refine RG.nil ?_
  refine WP.seq ?_
  refine WP.seq ?_
  refine WP.region ?_
  refine RG.pv rfl (PV.mvI (.inl rfl) rfl) ?_
  refine RG.pv rfl (PV.leq rfl rfl rfl) ?_
  refine RG.nil ?_
  refine WP.cond rfl (fun h2 => ?_) (fun h2 => ?_)
  · have h2 := of_decide_eq_true h2
    refine WP.seq ?_
    refine WP.region ?_
    refine RG.pv rfl (PV.move (v := v) rfl rfl) ?_
    refine RG.pv rfl (PV.mvI (.inl rfl) rfl) ?_
    refine RG.pv rfl (PV.mvI (.inl rfl) rfl) ?_
    refine RG.callF (vs := [v, _, _]) rfl rfl En154 rfl (ins_int (a := 0) (b := xs.length) (by omega) (by omega) (by omega) ?_)
    refine RG.nil ?_
    refine WP.ret ?_
    exact ⟨_, _, ResV.zero rfl, Cv.p, k⟩
  · exact absurd (of_decide_eq_false h2) (by omega)
theorem sort_int {v : Value} {xs : List Int} (hl : xs.length ≤ 12) (k : R (.tuple #[]) G (osl 2 intT v (insL lt_int 0 xs.length xs) :: L)) : CallT Tryz.prog 64 #[v] G (osl 2 intT v xs :: L) R := by
  refine CallT.enter (args := _) Tryz.func64 rfl rfl (by kernel_rfl) rfl ?_
  refine WP.seq ?_
  refine WP.region ?_
  refine RG.pv rfl (PV.move (v := v) rfl rfl) ?_
  refine RG.pv rfl (PV.len (v := v) rfl Tryz.underlying26 rfl SlF.o) ?_
  refine RG.pv rfl (PV.mvI (.inr rfl) rfl) ?_
  refine RG.nil ?_
  refine WP.region ?_
  refine RG.pv rfl (PV.move (v := v) rfl rfl) ?_
  refine RG.pv rfl (PV.mvI (.inl rfl) rfl) ?_
  refine RG.pv rfl (PV.mvI (.inl rfl) rfl) ?_
  refine RG.pv rfl (PV.conv rfl ⟨_, Tryz.underlying3⟩ Tryz.underlying159 rfl rfl) ?_
  refine RG.callF (vs := [_]) rfl rfl En111 rfl (bitsLen_s (by rw [u64w (by omega)]; omega) (fun lw9 hl0w9 => ?_))
  refine RG.callF (vs := [v, _, _, _]) rfl rfl En110 rfl (pdqs_int hl ?_)
  refine RG.nil ?_
  exact ⟨_, _, ResV.zero rfl, Cv.p, k⟩
theorem compact_int {v : Value} {xs : List Int} (hl : xs.length ≤ 1000000) (k : ∀ v', R v' G (osl 2 intT v' (compactL xs) :: L)) : CallT Tryz.prog 65 #[v] G (osl 2 intT v xs :: L) R := by
  refine CallT.enter (args := _) Tryz.func65 rfl rfl (by kernel_rfl) rfl ?_
  refine WP.seq ?_
  refine WP.region ?_
  refine RG.pv rfl (PV.asg rfl rfl) ?_
  refine RG.nil ?_
  refine WP.seq ?_
  refine WP.seq ?_
  refine WP.region ?_
  refine RG.pv rfl (PV.move (v := v) rfl rfl) ?_
  refine RG.pv rfl (PV.len (v := v) rfl Tryz.underlying26 rfl SlF.o) ?_
  refine RG.pv rfl (PV.lss rfl rfl rfl) ?_
  refine RG.nil ?_
  refine WP.cond rfl (fun h2 => ?_) (fun h2 => ?_)
  · have h2 := of_decide_eq_true h2
    have e : compactL xs = xs := cpt_all fun j h3 h4 => by omega
    rw [e] at k
    refine WP.seq ?_
    refine WP.region ?_
    refine RG.pv rfl (PV.move (v := v) rfl rfl) ?_
    refine RG.pv rfl (PV.asg (v := v) rfl rfl) ?_
    refine RG.nil ?_
    refine WP.ret ?_
    exact ⟨_, _, ResV.one rfl rfl, Cv.p, k v⟩
  · have h2 := of_decide_eq_false h2
    have hg : gd xs = gd xs := rfl
    refine WP.skip ?_
    refine WP.seq ?_
    refine WP.seq ?_
    refine WP.region ?_
    refine RG.pv rfl (PV.mvI (.inr rfl) rfl) ?_
    refine RG.nil ?_
    refine WP.block ?_
    refine WP.loop1 [0] (fun n => (1 ≤ n ∧ n ≤ xs.length) ∧ ∀ j, 1 ≤ j → j < n → gd xs j ≠ gd xs (j - 1)) (fun n => [(3, vi n)]) (fun n => osl 2 intT v xs :: L) (fun n => xs.length - n) 1 ⟨by omega, fun j h3 h4 => by omega⟩ ⟨rfl, trivial⟩ Cv.p ?_
    rintro n τ ⟨hn, hd⟩
    refine WP.seq ?_
    refine WP.seq ?_
    refine WP.region ?_
    refine RG.pv rfl (PV.mvI (.inl rfl) rfl) ?_
    refine RG.pv rfl (PV.move (v := v) rfl rfl) ?_
    refine RG.pv rfl (PV.len (v := v) rfl Tryz.underlying26 rfl SlF.o) ?_
    refine RG.pv rfl (PV.lss rfl rfl rfl) ?_
    refine RG.nil ?_
    refine WP.cond rfl (fun h3 => ?_) (fun h3 => ?_)
    · have h3 := of_decide_eq_true h3
      refine WP.skip ?_
      refine WP.seq ?_
      refine WP.block ?_
      refine WP.seq ?_
      refine WP.regionQ (by kernel_rfl) (by kernel_rfl) ?_
      refine RQ.pv rfl (PV.move (v := v) rfl rfl) ?_
      refine RQ.pv rfl (PV.mvI (.inl rfl) rfl) ?_
      refine RQ.pv rfl (PV.idxS (j := n) (v := v) rfl Is26 rfl SlF.o rfl (by first | omega | (simp only [List.length_set]; omega)) (by first | omega | (simp only [List.length_set]; omega))) ?_
      refine RQ.pv rfl (PV.loadE1 rfl Sc2 rfl rfl (El.o (getG (by omega))) rfl) ?_
      refine RQ.pv rfl (PV.move (v := v) rfl rfl) ?_
      refine RQ.pv rfl (PV.mvI (.inl rfl) rfl) ?_
      refine RQ.pv rfl (PV.sub rfl rfl rfl (by omega)) ?_
      refine RQ.pv rfl (PV.idxS (j := n - 1) (v := v) rfl Is26 rfl SlF.o rfl (by first | omega | (simp only [List.length_set]; omega)) (by first | omega | (simp only [List.length_set]; omega))) ?_
      refine RQ.pv rfl (PV.loadE1 rfl Sc2 rfl rfl (El.o (getG (by omega))) rfl) ?_
      refine RQ.pv rfl (PV.eql rfl rfl rfl) ?_
      refine RQ.nil ?_
      refine WP.cond rfl (fun h4 => ?_) (fun h4 => ?_)
      · have h4 := of_decide_eq_true h4
        have h30 : n < xs.length := by omega
        have e0 : xs.take n = cpt xs (n + 1) := by
          rw [cpt, if_neg (by rintro (c | c) <;> first | omega | exact c h4), cpt_take (by omega) hd]
        refine WP.seq ?_
        refine WP.region ?_
        refine RG.pv rfl (PV.move (v := v) rfl rfl) ?_
        refine RG.pv rfl (PV.mvI (.inl rfl) rfl) ?_
        refine RG.pv rfl (PV.slc (v := v) rfl Is26 rfl SlF.o (optAt.s rfl rfl) optAt.n (by omega) (by omega)) ?_
        refine RG.pv rfl (PV.asg rfl rfl) ?_
        refine RG.nil ?_
        refine WP.seq ?_
        refine WP.seq ?_
        refine WP.region ?_
        refine RG.pv rfl (PV.mvI (.inr rfl) rfl) ?_
        refine RG.nil ?_
        refine WP.block ?_
        refine WP.loop3 [0, 4] (fun (p q : Nat) (ys : List Int) => (1 ≤ p ∧ p ≤ xs.length - n ∧ q + 1 ≤ n + p) ∧ ys.length = xs.length ∧ ys.take q = cpt xs (n + p) ∧ ∀ j, n + p ≤ j + 1 → gd ys j = gd xs j) (fun (p q : Nat) (ys : List Int) => [(5, vi p), (3, vi q)]) (fun (p q : Nat) (ys : List Int) => osl 2 intT v ys :: L) (fun (p q : Nat) (ys : List Int) => xs.length - p) 1 n xs ⟨by omega, rfl, e0, fun j _ => rfl⟩ ⟨rfl, rfl, trivial⟩ Cv.p ?_
        rintro p q ys τ1 ⟨hp, hyl, hyt, hyr⟩
        refine WP.seq ?_
        refine WP.seq ?_
        refine WP.region ?_
        refine RG.pv rfl (PV.mvI (.inl rfl) rfl) ?_
        refine RG.pv rfl (PV.move rfl rfl) ?_
        refine RG.pv rfl (PV.len rfl Tryz.underlying26 rfl (SlF.r0 (Rs.slv (F := intT) Rs.o (by omega) (by omega)))) ?_
        refine RG.pv rfl (PV.lss rfl rfl rfl) ?_
        refine RG.nil ?_
        have hpl : (List.drop n (List.take xs.length ys)).length = xs.length - n := by simp; omega
        refine WP.cond rfl (fun h5 => ?_) (fun h5 => ?_)
        · have h5 := of_decide_eq_true h5
          have h50 : n + p < xs.length := by omega
          have g1 : gd (List.drop n (List.take xs.length ys)) p = gd xs (n + p) := by rw [gd_part h50]; exact hyr _ (by omega)
          have g2 : gd (List.drop n (List.take xs.length ys)) (p - 1) = gd xs (n + p - 1) := by rw [gd_part (by omega), show n + (p - 1) = n + p - 1 by omega]; exact hyr _ (by omega)
          refine WP.skip ?_
          refine WP.seq ?_
          refine WP.block ?_
          refine WP.seq ?_
          refine WP.regionQ (by kernel_rfl) (by kernel_rfl) ?_
          refine RQ.pv rfl (PV.move rfl rfl) ?_
          refine RQ.pv rfl (PV.mvI (.inl rfl) rfl) ?_
          refine RQ.pv rfl (PV.idxS (j := p) rfl Is26 rfl (SlF.r0 (Rs.slv (F := intT) Rs.o (by omega) (by omega))) rfl (by first | omega | (simp only [List.length_set]; omega)) (by first | omega | (simp only [List.length_set]; omega))) ?_
          refine RQ.pv rfl (PV.loadE1 rfl Sc2 rfl rfl (El.r0 (Rs.slv (F := intT) Rs.o (by omega) (by omega)) (getG (by omega))) rfl) ?_
          refine RQ.pv rfl (PV.move rfl rfl) ?_
          refine RQ.pv rfl (PV.mvI (.inl rfl) rfl) ?_
          refine RQ.pv rfl (PV.sub rfl rfl rfl (by omega)) ?_
          refine RQ.pv rfl (PV.idxS (j := p - 1) rfl Is26 rfl (SlF.r0 (Rs.slv (F := intT) Rs.o (by omega) (by omega))) rfl (by first | omega | (simp only [List.length_set]; omega)) (by first | omega | (simp only [List.length_set]; omega))) ?_
          refine RQ.pv rfl (PV.loadE1 rfl Sc2 rfl rfl (El.r0 (Rs.slv (F := intT) Rs.o (by omega) (by omega)) (getG (by omega))) rfl) ?_
          refine RQ.pv rfl (PV.neq rfl rfl rfl) ?_
          refine RQ.nil ?_
          rw [g1, g2]
          refine WP.cond rfl (fun h6 => ?_) (fun h6 => ?_)
          · have h6 : ¬ gd xs (n + p) = gd xs (n + p - 1) := by simpa using h6
            have e1 : (ys.set q (gd xs (n + p))).take (q + 1) = cpt xs (n + (p + 1)) := by
              rw [show n + (p + 1) = (n + p) + 1 by omega, cpt, if_pos (.inr h6), ← hyt, List.take_add_one, List.take_set_of_le (Nat.le_refl _)]
              congr 1
              simp [show q < ys.length by omega]
            have e2 : ∀ j, n + (p + 1) ≤ j + 1 → gd (ys.set q (gd xs (n + p))) j = gd xs j := fun j hj => by
              rw [← hyr j (by omega)]; unfold gd; rw [List.getElem?_set_ne (by omega)]
            refine WP.seq ?_
            refine WP.region ?_
            refine RG.pv rfl (PV.move (v := v) rfl rfl) ?_
            refine RG.pv rfl (PV.mvI (.inl rfl) rfl) ?_
            refine RG.pv rfl (PV.move rfl rfl) ?_
            refine RG.pv rfl (PV.mvI (.inl rfl) rfl) ?_
            refine RG.pv rfl (PV.idxS (j := p) rfl Is26 rfl (SlF.r0 (Rs.slv (F := intT) Rs.o (by omega) (by omega))) rfl (by first | omega | (simp only [List.length_set]; omega)) (by first | omega | (simp only [List.length_set]; omega))) ?_
            refine RG.pv rfl (PV.loadE1 rfl Sc2 rfl rfl (El.r0 (Rs.slv (F := intT) Rs.o (by omega) (by omega)) (getG (by omega))) rfl) ?_
            refine RG.pv rfl (PV.idxS (j := q) (v := v) rfl Is26 rfl SlF.o rfl (by first | omega | (simp only [List.length_set]; omega)) (by first | omega | (simp only [List.length_set]; omega))) ?_
            refine RG.ot rfl (OT.storeE (F := intT) rfl Sz2 rfl rfl rfl (Cl.c rfl) (OneC.c rfl) (by first | omega | (simp only [List.length_set]; omega)) ?_)
            refine RG.nil ?_
            refine WP.region ?_
            refine RG.pv rfl (PV.mvI (.inl rfl) rfl) ?_
            refine RG.pv rfl (PV.add rfl rfl rfl (by omega)) ?_
            refine RG.pv rfl (PV.mvI (.inr rfl) rfl) ?_
            refine RG.nil ?_
            refine WP.region ?_
            refine RG.pv rfl (PV.mvI (.inl rfl) rfl) ?_
            refine RG.pv rfl (PV.add rfl rfl rfl (by omega)) ?_
            refine RG.pv rfl (PV.mvI (.inr rfl) rfl) ?_
            refine RG.nil ?_
            exact ⟨rfl, p + 1, q + 1, (ys.set q (gd xs (n + p))), ⟨by omega, by simpa using hyl, e1, e2⟩, ⟨rfl, rfl, trivial⟩, ⟨rfl, rfl, trivial⟩, (Cv.eqS (by rw [g1])), by omega⟩
          · have h6 : gd xs (n + p) = gd xs (n + p - 1) := by simpa using h6
            have e1 : ys.take q = cpt xs (n + (p + 1)) := by
              rw [show n + (p + 1) = (n + p) + 1 by omega, cpt, if_neg (by rintro (c | c) <;> first | omega | exact c h6), ← hyt]
            refine WP.skip ?_
            refine WP.region ?_
            refine RG.pv rfl (PV.mvI (.inl rfl) rfl) ?_
            refine RG.pv rfl (PV.add rfl rfl rfl (by omega)) ?_
            refine RG.pv rfl (PV.mvI (.inr rfl) rfl) ?_
            refine RG.nil ?_
            exact ⟨rfl, p + 1, q, ys, ⟨by omega, hyl, e1, fun j hj => hyr j (by omega)⟩, ⟨rfl, rfl, trivial⟩, ⟨rfl, rfl, trivial⟩, Cv.p, by omega⟩
        · have h5 := of_decide_eq_false h5
          have hcl : (List.take q ys ++ List.replicate (ys.length - q) (0 : Int)).length = ys.length := by simp; omega
          have e2 : (List.take q ys ++ List.replicate (ys.length - q) (0 : Int)).take q = compactL xs := by
            rw [List.take_append_of_le_length (by simp; omega), List.take_take, Nat.min_self, hyt, compactL]; congr 1; omega
          refine WP.exit ?_
          refine WP.seq ?_
          refine WP.region ?_
          refine RG.pv rfl (PV.move (v := v) rfl rfl) ?_
          refine RG.pv rfl (PV.mvI (.inl rfl) rfl) ?_
          refine RG.pv rfl (PV.slc (v := v) rfl Is26 rfl SlF.o (optAt.s rfl rfl) optAt.n (by omega) (by omega)) ?_
          refine RG.ot rfl (OT.clr rfl El26 rfl rfl rfl (by omega) ?_)
          refine RG.nil ?_
          refine WP.seq ?_
          refine WP.region ?_
          refine RG.pv rfl (PV.move (v := v) rfl rfl) ?_
          refine RG.pv rfl (PV.mvI (.inl rfl) rfl) ?_
          refine RG.pv rfl (PV.slc (v := v) rfl Is26 rfl SlF.o optAt.n (optAt.s rfl rfl) (by omega) (by omega)) ?_
          refine RG.pv rfl (PV.asg rfl rfl) ?_
          refine RG.nil ?_
          refine WP.ret ?_
          exact ⟨_, _, ResV.one rfl rfl, ((Cv.p (C := osl 2 intT v (List.take q ys ++ List.replicate (ys.length - q) (0 : Int)) :: L)).trans ((Cv.cut (k := q) (by omega) (by omega) rfl).trans (Cv.eqS e2))), k (slv 1 v 0 q)⟩
      · have h4 := of_decide_eq_false h4
        have hd' : ∀ j, 1 ≤ j → j < n + 1 → gd xs j ≠ gd xs (j - 1) := fun j h5 h6 => by
          by_cases c : j = n
          · rw [c]; exact h4
          · exact hd j h5 (by omega)
        refine WP.skip ?_
        refine WP.region ?_
        refine RG.pv rfl (PV.mvI (.inl rfl) rfl) ?_
        refine RG.pv rfl (PV.add rfl rfl rfl (by omega)) ?_
        refine RG.pv rfl (PV.mvI (.inr rfl) rfl) ?_
        refine RG.nil ?_
        exact ⟨rfl, n + 1, ⟨by omega, hd'⟩, ⟨rfl, trivial⟩, ⟨rfl, trivial⟩, Cv.p, by omega⟩
    · have h3 := of_decide_eq_false h3
      have e : compactL xs = xs := cpt_all fun j h5 h6 => hd j h5 (by omega)
      rw [e] at k
      refine WP.exit ?_
      refine WP.seq ?_
      refine WP.region ?_
      refine RG.pv rfl (PV.move (v := v) rfl rfl) ?_
      refine RG.pv rfl (PV.asg (v := v) rfl rfl) ?_
      refine RG.nil ?_
      refine WP.ret ?_
      exact ⟨_, _, ResV.one rfl rfl, Cv.p, k v⟩
theorem pdqs_str {v : Value} {l : Int} {xs : List ByteArray} (hl : xs.length ≤ 12) (k : R (.tuple #[]) G (osl 9 strT v (insL lt_str 0 xs.length xs) :: L)) : CallT Tryz.prog 112 #[v, vi 0, vi xs.length, vi l] G (osl 9 strT v xs :: L) R := by
  refine CallT.enter (args := _) Tryz.func112 rfl rfl (by kernel_rfl) rfl ?_
  refine WP.seq ?_
  refine WP.region ?_
  refine RG.pv rfl (PV.mvB (.inr rfl) rfl) ?_
  refine RG.nil ?_
  refine WP.seq ?_
  refine WP.region ?_
  refine RG.pv rfl (PV.mvB (.inr rfl) rfl) ?_
  refine RG.nil ?_
  refine WP.block ?_
  refine WP.loop1 [0] (fun (u : Unit) => True) (fun (u : Unit) => [(1, vi 0), (2, vi xs.length), (3, vi l), (8, .bool true), (9, .bool true)]) (fun (u : Unit) => osl 9 strT v xs :: L) (fun (u : Unit) => 0) () trivial ⟨rfl, rfl, rfl, rfl, rfl, trivial⟩ Cv.p ?_
  rintro _u τ _
  refine WP.block ?_
  refine WP.seq ?_
  refine WP.region ?_
  refine RG.pv rfl (PV.mvI (.inl rfl) rfl) ?_
  refine RG.pv rfl (PV.mvI (.inl rfl) rfl) ?_
  refine RG.pv rfl (PV.sub rfl rfl rfl (by omega)) ?_
  refine RG.pv rfl (PV.mvI (.inr rfl) rfl) ?_
  refine RG.nil ?_
  refine WP.seq ?_
  refine WP.seq ?_
  refine WP.region ?_
  refine RG.pv rfl (PV.mvI (.inl rfl) rfl) ?_
  refine RG.pv rfl (PV.leq rfl rfl rfl) ?_
  refine RG.nil ?_
  refine WP.cond rfl (fun h2 => ?_) (fun h2 => ?_)
  · have h2 := of_decide_eq_true h2
    refine WP.seq ?_
    refine WP.region ?_
    refine RG.pv rfl (PV.move (v := v) rfl rfl) ?_
    refine RG.pv rfl (PV.mvI (.inl rfl) rfl) ?_
    refine RG.pv rfl (PV.mvI (.inl rfl) rfl) ?_
    refine RG.callF (vs := [v, _, _]) rfl rfl En165 rfl (ins_str (a := 0) (b := xs.length) (by omega) (by omega) (by omega) ?_)
    refine RG.nil ?_
    refine WP.ret ?_
    exact ⟨_, _, ResV.zero rfl, Cv.p, k⟩
  · exact absurd (of_decide_eq_false h2) (by omega)
theorem sort_str {v : Value} {xs : List ByteArray} (hl : xs.length ≤ 12) (k : R (.tuple #[]) G (osl 9 strT v (insL lt_str 0 xs.length xs) :: L)) : CallT Tryz.prog 66 #[v] G (osl 9 strT v xs :: L) R := by
  refine CallT.enter (args := _) Tryz.func66 rfl rfl (by kernel_rfl) rfl ?_
  refine WP.seq ?_
  refine WP.region ?_
  refine RG.pv rfl (PV.move (v := v) rfl rfl) ?_
  refine RG.pv rfl (PV.len (v := v) rfl Tryz.underlying45 rfl SlF.o) ?_
  refine RG.pv rfl (PV.mvI (.inr rfl) rfl) ?_
  refine RG.nil ?_
  refine WP.region ?_
  refine RG.pv rfl (PV.move (v := v) rfl rfl) ?_
  refine RG.pv rfl (PV.mvI (.inl rfl) rfl) ?_
  refine RG.pv rfl (PV.mvI (.inl rfl) rfl) ?_
  refine RG.pv rfl (PV.conv rfl ⟨_, Tryz.underlying3⟩ Tryz.underlying159 rfl rfl) ?_
  refine RG.callF (vs := [_]) rfl rfl En111 rfl (bitsLen_s (by rw [u64w (by omega)]; omega) (fun lw9 hl0w9 => ?_))
  refine RG.callF (vs := [v, _, _, _]) rfl rfl En112 rfl (pdqs_str hl ?_)
  refine RG.nil ?_
  exact ⟨_, _, ResV.zero rfl, Cv.p, k⟩
theorem compact_str {v : Value} {xs : List ByteArray} (hl : xs.length ≤ 1000000) (k : ∀ v', R v' G (osl 9 strT v' (compactL xs) :: L)) : CallT Tryz.prog 67 #[v] G (osl 9 strT v xs :: L) R := by
  refine CallT.enter (args := _) Tryz.func67 rfl rfl (by kernel_rfl) rfl ?_
  refine WP.seq ?_
  refine WP.region ?_
  refine RG.pv rfl (PV.asg rfl rfl) ?_
  refine RG.nil ?_
  refine WP.seq ?_
  refine WP.seq ?_
  refine WP.region ?_
  refine RG.pv rfl (PV.move (v := v) rfl rfl) ?_
  refine RG.pv rfl (PV.len (v := v) rfl Tryz.underlying45 rfl SlF.o) ?_
  refine RG.pv rfl (PV.lss rfl rfl rfl) ?_
  refine RG.nil ?_
  refine WP.cond rfl (fun h2 => ?_) (fun h2 => ?_)
  · have h2 := of_decide_eq_true h2
    have e : compactL xs = xs := cpt_all fun j h3 h4 => by omega
    rw [e] at k
    refine WP.seq ?_
    refine WP.region ?_
    refine RG.pv rfl (PV.move (v := v) rfl rfl) ?_
    refine RG.pv rfl (PV.asg (v := v) rfl rfl) ?_
    refine RG.nil ?_
    refine WP.ret ?_
    exact ⟨_, _, ResV.one rfl rfl, Cv.p, k v⟩
  · have h2 := of_decide_eq_false h2
    have hg : gd xs = gd xs := rfl
    refine WP.skip ?_
    refine WP.seq ?_
    refine WP.seq ?_
    refine WP.region ?_
    refine RG.pv rfl (PV.mvI (.inr rfl) rfl) ?_
    refine RG.nil ?_
    refine WP.block ?_
    refine WP.loop1 [0] (fun n => (1 ≤ n ∧ n ≤ xs.length) ∧ ∀ j, 1 ≤ j → j < n → gd xs j ≠ gd xs (j - 1)) (fun n => [(3, vi n)]) (fun n => osl 9 strT v xs :: L) (fun n => xs.length - n) 1 ⟨by omega, fun j h3 h4 => by omega⟩ ⟨rfl, trivial⟩ Cv.p ?_
    rintro n τ ⟨hn, hd⟩
    refine WP.seq ?_
    refine WP.seq ?_
    refine WP.region ?_
    refine RG.pv rfl (PV.mvI (.inl rfl) rfl) ?_
    refine RG.pv rfl (PV.move (v := v) rfl rfl) ?_
    refine RG.pv rfl (PV.len (v := v) rfl Tryz.underlying45 rfl SlF.o) ?_
    refine RG.pv rfl (PV.lss rfl rfl rfl) ?_
    refine RG.nil ?_
    refine WP.cond rfl (fun h3 => ?_) (fun h3 => ?_)
    · have h3 := of_decide_eq_true h3
      refine WP.skip ?_
      refine WP.seq ?_
      refine WP.block ?_
      refine WP.seq ?_
      refine WP.regionQ (by kernel_rfl) (by kernel_rfl) ?_
      refine RQ.pv rfl (PV.move (v := v) rfl rfl) ?_
      refine RQ.pv rfl (PV.mvI (.inl rfl) rfl) ?_
      refine RQ.pv rfl (PV.idxS (j := n) (v := v) rfl Is45 rfl SlF.o rfl (by first | omega | (simp only [List.length_set]; omega)) (by first | omega | (simp only [List.length_set]; omega))) ?_
      refine RQ.pv rfl (PV.loadE1 rfl Sc9 rfl rfl (El.o (getG (by omega))) rfl) ?_
      refine RQ.pv rfl (PV.move (v := v) rfl rfl) ?_
      refine RQ.pv rfl (PV.mvI (.inl rfl) rfl) ?_
      refine RQ.pv rfl (PV.sub rfl rfl rfl (by omega)) ?_
      refine RQ.pv rfl (PV.idxS (j := n - 1) (v := v) rfl Is45 rfl SlF.o rfl (by first | omega | (simp only [List.length_set]; omega)) (by first | omega | (simp only [List.length_set]; omega))) ?_
      refine RQ.pv rfl (PV.loadE1 rfl Sc9 rfl rfl (El.o (getG (by omega))) rfl) ?_
      refine RQ.pv rfl (PV.eqlS rfl rfl rfl) ?_
      refine RQ.nil ?_
      refine WP.cond rfl (fun h4 => ?_) (fun h4 => ?_)
      · have h4 := of_decide_eq_true h4
        have h30 : n < xs.length := by omega
        have e0 : xs.take n = cpt xs (n + 1) := by
          rw [cpt, if_neg (by rintro (c | c) <;> first | omega | exact c h4), cpt_take (by omega) hd]
        refine WP.seq ?_
        refine WP.region ?_
        refine RG.pv rfl (PV.move (v := v) rfl rfl) ?_
        refine RG.pv rfl (PV.mvI (.inl rfl) rfl) ?_
        refine RG.pv rfl (PV.slc (v := v) rfl Is45 rfl SlF.o (optAt.s rfl rfl) optAt.n (by omega) (by omega)) ?_
        refine RG.pv rfl (PV.asg rfl rfl) ?_
        refine RG.nil ?_
        refine WP.seq ?_
        refine WP.seq ?_
        refine WP.region ?_
        refine RG.pv rfl (PV.mvI (.inr rfl) rfl) ?_
        refine RG.nil ?_
        refine WP.block ?_
        refine WP.loop3 [0, 4] (fun (p q : Nat) (ys : List ByteArray) => (1 ≤ p ∧ p ≤ xs.length - n ∧ q + 1 ≤ n + p) ∧ ys.length = xs.length ∧ ys.take q = cpt xs (n + p) ∧ ∀ j, n + p ≤ j + 1 → gd ys j = gd xs j) (fun (p q : Nat) (ys : List ByteArray) => [(5, vi p), (3, vi q)]) (fun (p q : Nat) (ys : List ByteArray) => osl 9 strT v ys :: L) (fun (p q : Nat) (ys : List ByteArray) => xs.length - p) 1 n xs ⟨by omega, rfl, e0, fun j _ => rfl⟩ ⟨rfl, rfl, trivial⟩ Cv.p ?_
        rintro p q ys τ1 ⟨hp, hyl, hyt, hyr⟩
        refine WP.seq ?_
        refine WP.seq ?_
        refine WP.region ?_
        refine RG.pv rfl (PV.mvI (.inl rfl) rfl) ?_
        refine RG.pv rfl (PV.move rfl rfl) ?_
        refine RG.pv rfl (PV.len rfl Tryz.underlying45 rfl (SlF.r0 (Rs.slv (F := strT) Rs.o (by omega) (by omega)))) ?_
        refine RG.pv rfl (PV.lss rfl rfl rfl) ?_
        refine RG.nil ?_
        have hpl : (List.drop n (List.take xs.length ys)).length = xs.length - n := by simp; omega
        refine WP.cond rfl (fun h5 => ?_) (fun h5 => ?_)
        · have h5 := of_decide_eq_true h5
          have h50 : n + p < xs.length := by omega
          have g1 : gd (List.drop n (List.take xs.length ys)) p = gd xs (n + p) := by rw [gd_part h50]; exact hyr _ (by omega)
          have g2 : gd (List.drop n (List.take xs.length ys)) (p - 1) = gd xs (n + p - 1) := by rw [gd_part (by omega), show n + (p - 1) = n + p - 1 by omega]; exact hyr _ (by omega)
          refine WP.skip ?_
          refine WP.seq ?_
          refine WP.block ?_
          refine WP.seq ?_
          refine WP.regionQ (by kernel_rfl) (by kernel_rfl) ?_
          refine RQ.pv rfl (PV.move rfl rfl) ?_
          refine RQ.pv rfl (PV.mvI (.inl rfl) rfl) ?_
          refine RQ.pv rfl (PV.idxS (j := p) rfl Is45 rfl (SlF.r0 (Rs.slv (F := strT) Rs.o (by omega) (by omega))) rfl (by first | omega | (simp only [List.length_set]; omega)) (by first | omega | (simp only [List.length_set]; omega))) ?_
          refine RQ.pv rfl (PV.loadE1 rfl Sc9 rfl rfl (El.r0 (Rs.slv (F := strT) Rs.o (by omega) (by omega)) (getG (by omega))) rfl) ?_
          refine RQ.pv rfl (PV.move rfl rfl) ?_
          refine RQ.pv rfl (PV.mvI (.inl rfl) rfl) ?_
          refine RQ.pv rfl (PV.sub rfl rfl rfl (by omega)) ?_
          refine RQ.pv rfl (PV.idxS (j := p - 1) rfl Is45 rfl (SlF.r0 (Rs.slv (F := strT) Rs.o (by omega) (by omega))) rfl (by first | omega | (simp only [List.length_set]; omega)) (by first | omega | (simp only [List.length_set]; omega))) ?_
          refine RQ.pv rfl (PV.loadE1 rfl Sc9 rfl rfl (El.r0 (Rs.slv (F := strT) Rs.o (by omega) (by omega)) (getG (by omega))) rfl) ?_
          refine RQ.pv rfl (PV.neqS rfl rfl rfl) ?_
          refine RQ.nil ?_
          rw [g1, g2]
          refine WP.cond rfl (fun h6 => ?_) (fun h6 => ?_)
          · have h6 : ¬ gd xs (n + p) = gd xs (n + p - 1) := by simpa using h6
            have e1 : (ys.set q (gd xs (n + p))).take (q + 1) = cpt xs (n + (p + 1)) := by
              rw [show n + (p + 1) = (n + p) + 1 by omega, cpt, if_pos (.inr h6), ← hyt, List.take_add_one, List.take_set_of_le (Nat.le_refl _)]
              congr 1
              simp [show q < ys.length by omega]
            have e2 : ∀ j, n + (p + 1) ≤ j + 1 → gd (ys.set q (gd xs (n + p))) j = gd xs j := fun j hj => by
              rw [← hyr j (by omega)]; unfold gd; rw [List.getElem?_set_ne (by omega)]
            refine WP.seq ?_
            refine WP.region ?_
            refine RG.pv rfl (PV.move (v := v) rfl rfl) ?_
            refine RG.pv rfl (PV.mvI (.inl rfl) rfl) ?_
            refine RG.pv rfl (PV.move rfl rfl) ?_
            refine RG.pv rfl (PV.mvI (.inl rfl) rfl) ?_
            refine RG.pv rfl (PV.idxS (j := p) rfl Is45 rfl (SlF.r0 (Rs.slv (F := strT) Rs.o (by omega) (by omega))) rfl (by first | omega | (simp only [List.length_set]; omega)) (by first | omega | (simp only [List.length_set]; omega))) ?_
            refine RG.pv rfl (PV.loadE1 rfl Sc9 rfl rfl (El.r0 (Rs.slv (F := strT) Rs.o (by omega) (by omega)) (getG (by omega))) rfl) ?_
            refine RG.pv rfl (PV.idxS (j := q) (v := v) rfl Is45 rfl SlF.o rfl (by first | omega | (simp only [List.length_set]; omega)) (by first | omega | (simp only [List.length_set]; omega))) ?_
            refine RG.ot rfl (OT.storeE (F := strT) rfl Sz9 rfl rfl rfl (Cl.c rfl) (OneC.c rfl) (by first | omega | (simp only [List.length_set]; omega)) ?_)
            refine RG.nil ?_
            refine WP.region ?_
            refine RG.pv rfl (PV.mvI (.inl rfl) rfl) ?_
            refine RG.pv rfl (PV.add rfl rfl rfl (by omega)) ?_
            refine RG.pv rfl (PV.mvI (.inr rfl) rfl) ?_
            refine RG.nil ?_
            refine WP.region ?_
            refine RG.pv rfl (PV.mvI (.inl rfl) rfl) ?_
            refine RG.pv rfl (PV.add rfl rfl rfl (by omega)) ?_
            refine RG.pv rfl (PV.mvI (.inr rfl) rfl) ?_
            refine RG.nil ?_
            exact ⟨rfl, p + 1, q + 1, (ys.set q (gd xs (n + p))), ⟨by omega, by simpa using hyl, e1, e2⟩, ⟨rfl, rfl, trivial⟩, ⟨rfl, rfl, trivial⟩, (Cv.eqS (by rw [g1])), by omega⟩
          · have h6 : gd xs (n + p) = gd xs (n + p - 1) := by simpa using h6
            have e1 : ys.take q = cpt xs (n + (p + 1)) := by
              rw [show n + (p + 1) = (n + p) + 1 by omega, cpt, if_neg (by rintro (c | c) <;> first | omega | exact c h6), ← hyt]
            refine WP.skip ?_
            refine WP.region ?_
            refine RG.pv rfl (PV.mvI (.inl rfl) rfl) ?_
            refine RG.pv rfl (PV.add rfl rfl rfl (by omega)) ?_
            refine RG.pv rfl (PV.mvI (.inr rfl) rfl) ?_
            refine RG.nil ?_
            exact ⟨rfl, p + 1, q, ys, ⟨by omega, hyl, e1, fun j hj => hyr j (by omega)⟩, ⟨rfl, rfl, trivial⟩, ⟨rfl, rfl, trivial⟩, Cv.p, by omega⟩
        · have h5 := of_decide_eq_false h5
          have hcl : (List.take q ys ++ List.replicate (ys.length - q) ByteArray.empty).length = ys.length := by simp; omega
          have e2 : (List.take q ys ++ List.replicate (ys.length - q) ByteArray.empty).take q = compactL xs := by
            rw [List.take_append_of_le_length (by simp; omega), List.take_take, Nat.min_self, hyt, compactL]; congr 1; omega
          refine WP.exit ?_
          refine WP.seq ?_
          refine WP.region ?_
          refine RG.pv rfl (PV.move (v := v) rfl rfl) ?_
          refine RG.pv rfl (PV.mvI (.inl rfl) rfl) ?_
          refine RG.pv rfl (PV.slc (v := v) rfl Is45 rfl SlF.o (optAt.s rfl rfl) optAt.n (by omega) (by omega)) ?_
          refine RG.ot rfl (OT.clr rfl El45 rfl rfl rfl (by omega) ?_)
          refine RG.nil ?_
          refine WP.seq ?_
          refine WP.region ?_
          refine RG.pv rfl (PV.move (v := v) rfl rfl) ?_
          refine RG.pv rfl (PV.mvI (.inl rfl) rfl) ?_
          refine RG.pv rfl (PV.slc (v := v) rfl Is45 rfl SlF.o optAt.n (optAt.s rfl rfl) (by omega) (by omega)) ?_
          refine RG.pv rfl (PV.asg rfl rfl) ?_
          refine RG.nil ?_
          refine WP.ret ?_
          exact ⟨_, _, ResV.one rfl rfl, ((Cv.p (C := osl 9 strT v (List.take q ys ++ List.replicate (ys.length - q) ByteArray.empty) :: L)).trans ((Cv.cut (k := q) (by omega) (by omega) rfl).trans (Cv.eqS e2))), k (slv 1 v 0 q)⟩
      · have h4 := of_decide_eq_false h4
        have hd' : ∀ j, 1 ≤ j → j < n + 1 → gd xs j ≠ gd xs (j - 1) := fun j h5 h6 => by
          by_cases c : j = n
          · rw [c]; exact h4
          · exact hd j h5 (by omega)
        refine WP.skip ?_
        refine WP.region ?_
        refine RG.pv rfl (PV.mvI (.inl rfl) rfl) ?_
        refine RG.pv rfl (PV.add rfl rfl rfl (by omega)) ?_
        refine RG.pv rfl (PV.mvI (.inr rfl) rfl) ?_
        refine RG.nil ?_
        exact ⟨rfl, n + 1, ⟨by omega, hd'⟩, ⟨rfl, trivial⟩, ⟨rfl, trivial⟩, Cv.p, by omega⟩
    · have h3 := of_decide_eq_false h3
      have e : compactL xs = xs := cpt_all fun j h5 h6 => hd j h5 (by omega)
      rw [e] at k
      refine WP.exit ?_
      refine WP.seq ?_
      refine WP.region ?_
      refine RG.pv rfl (PV.move (v := v) rfl rfl) ?_
      refine RG.pv rfl (PV.asg (v := v) rfl rfl) ?_
      refine RG.nil ?_
      refine WP.ret ?_
      exact ⟨_, _, ResV.one rfl rfl, Cv.p, k v⟩
end Go.Proofs.YtmomfgfmnpblpaaGreat
namespace Go.Proofs.YtmomfgfmnpblpaaGreat
set_option linter.unusedVariables false
set_option linter.unusedSimpArgs false
open Go
/-- the value at a key -/
def mget {α β : Type} [DecidableEq α] (es : List (α × β)) (k : α) : Option β := (es.find? fun e => decide (e.1 = k)).map (·.2)
/-- an owned map: its entries, oldest first -/
def omap {α β : Type} (f : α → Value) (g : β → Value) (b : Nat) (es : List (α × β)) : Ch := fun h => ∃ c a, h b = some (.map a c) ∧ a.toList.map (fun e => (e.key, e.val)) = es.map (fun p => (f p.1, g p.2))
class ExM (b : Nat) (L : List Ch) (α : outParam Type) (β : outParam Type) (f : outParam (α → Value)) (g : outParam (β → Value)) (es : outParam (List (α × β))) (L' : outParam (List Ch)) : Prop where
  ex : Ex (omap f g b es) L L'
instance (priority := low) (b : Nat) (x : Ch) (L : List Ch) (α β : Type) (f : α → Value) (g : β → Value) (es : List (α × β)) (L' : List Ch) [h : ExM b L α β f g es L'] : ExM b (x :: L) α β f g es (x :: L') := ⟨.tail x h.ex⟩
instance (b : Nat) (L : List Ch) (α β : Type) (f : α → Value) (g : β → Value) (es : List (α × β)) : ExM b (omap f g b es :: L) α β f g es L := ⟨.head _ L⟩
instance (b : Nat) (ds : List Dr) (L M L' : List Ch) (α β : Type) (f : α → Value) (g : β → Value) (es : List (α × β)) [ExM b L α β f g es M] [DropC ds M L'] : DropC (.s (.map (some b)) :: ds) L L' := ⟨⟩
/-- a key's encoding -/
structure KeyF {α : Type} (d : TypeDesc) (f : α → Value) : Prop where
  key : ∀ x, MapKept.IsKey d (f x)
  inj : ∀ x y, f x = f y → x = y
theorem KeyF.i : KeyF (.int .i64) (fun a : Int => Value.int .i64 a) := ⟨fun _ => rfl, fun x y h => by simpa using h⟩
theorem KeyF.s : KeyF .string (fun a : ByteArray => Value.string a) := ⟨fun _ => trivial, fun x y h => by simpa using h⟩
theorem findNow_mget {α β : Type} [DecidableEq α] {d : TypeDesc} {f : α → Value} {g : β → Value} (hf : KeyF d f) (k : α) : ∀ (l : List MapEntry) (es : List (α × β)) (i : Nat), l.map (fun e => (e.key, e.val)) = es.map (fun p => (f p.1, g p.2)) →
    (mget es k = none → Instr.findNow d (f k) l i = some none) ∧ (∀ v, mget es k = some v → ∃ j, Instr.findNow d (f k) l i = some (some (j, g v)))
  | [], [], i, _ => ⟨fun _ => rfl, fun v h => by simp [mget] at h⟩
  | [], _ :: _, _, h => by simp at h
  | _ :: _, [], _, h => by simp at h
  | e :: l, p :: es, i, h => by
    have h1 : e.key = f p.1 := by have := (List.cons.inj h).1; exact (Prod.mk.inj this).1
    have h2 : e.val = g p.2 := by have := (List.cons.inj h).1; exact (Prod.mk.inj this).2
    have h3 := (List.cons.inj h).2
    obtain ⟨r, hr, hiff⟩ := MapKept.sameNow_of_keys (hf.key k) (show MapKept.IsKey d e.key by rw [h1]; exact hf.key _)
    by_cases c : p.1 = k
    · have hrt : r = true := hiff.2 (by rw [h1, c])
      subst hrt
      have hm : mget (p :: es) k = some p.2 := by simp [mget, c]
      exact ⟨fun hn => (by rw [hm] at hn; cases hn), fun v hv => ⟨i, by rw [hm] at hv; cases hv; simp [Instr.findNow, hr, h2]⟩⟩
    · have hrf : r = false := by
        cases r with
        | false => rfl
        | true => exact absurd (hf.inj _ _ (by rw [← h1]; exact (hiff.1 rfl).symm)) c
      subst hrf
      have hm : mget (p :: es) k = mget es k := by simp [mget, c]
      have ih := findNow_mget hf k l es (i + 1) h3
      rw [hm]
      exact ⟨fun hn => by simp [Instr.findNow, hr, ih.1 hn], fun v hv => by
        obtain ⟨j, hj⟩ := ih.2 v hv
        exact ⟨j, by simp [Instr.findNow, hr, hj]⟩⟩
section
variable {P : Program} {n : Nat} {σ : Nat → Value} {G : Gh} {L : List Ch} {o : Oper} {t kt et : TypeId} {x y z : Operand} {K : (Nat → Value) → Gh → List Ch → Prop}
theorem OT.mkMap {α β : Type} (f : α → Value) (g : β → Value) (ho : o.op = .makeMap t none) (k : ∀ b, K (updo σ o.dst (.map (some b))) G (omap f g b [] :: L)) : OT P n o σ G L K := by
  refine OT.ofRun fun w hs => ⟨_, G, _, { w with heap := w.heap.push (.map #[] 0) }, ?_, hs.new (by exact ⟨rfl, rfl, rfl⟩) (wh_push w _) (c := omap f g w.heap.size []) (fun h hb => ?_), k w.heap.size⟩
  · simp [execOp, ho, Instr.makeMap, newObj, Sem.run]
  · exact ⟨0, #[], hb, rfl⟩
theorem omap.at {α β : Type} {f : α → Value} {g : β → Value} {b : Nat} {es : List (α × β)} {L' : List Ch} [hX : ExM b L α β f g es L'] {w : World} (hs : St G L w) : ∃ c a, w.heap[b]? = some (.map a c) ∧ a.toList.map (fun e => (e.key, e.val)) = es.map (fun p => (f p.1, g p.2)) := by
  obtain ⟨hp, s, l1, l2, d⟩ := hs
  obtain ⟨h1, h2, _, m1, _, ⟨c, a, cb, ce⟩, _⟩ := hX.ex.sep s
  exact ⟨c, a, l2 _ _ (m1 _ _ cb), ce⟩
theorem PV.lookM {α β : Type} [DecidableEq α] {f : α → Value} {g : β → Value} {b : Nat} {es : List (α × β)} {L' : List Ch} {d : TypeDesc} {k : α} {z0 : β} (ho : o.op = .lookup t x y true) (ht : P.underlying t = some (.map kt et)) (hd : P.underlying kt = some d) (hf : KeyF d f)
    (hz : ∀ w, (zeroValue et).run P w = .ok (g z0) w) (hx : ev σ x = .map (some b)) [hX : ExM b L α β f g es L'] (hy : ev σ y = f k) : PV P o σ G L (.tuple #[g ((mget es k).getD z0), .bool (mget es k).isSome]) := by
  intro w hs
  obtain ⟨c, a, hb, he⟩ := omap.at (hX := hX) hs
  have hfn := findNow_mget (g := g) hf k a.toList es 0 he
  cases hm : mget es k with
  | none =>
    simp [execOp, ho, hx, hy, Instr.lookup, run_underlying ht, MapKept.run_getObj_map hb, MapKept.run_checkKey hd (hf.key k), MapKept.run_findKey hd (hfn.1 hm), hz w, Result.andThen]
  | some v =>
    obtain ⟨j, hj⟩ := hfn.2 v hm
    simp [execOp, ho, hx, hy, Instr.lookup, run_underlying ht, MapKept.run_getObj_map hb, MapKept.run_checkKey hd (hf.key k), MapKept.run_findKey hd hj, Result.andThen]
/-- a new key -/
theorem OT.newKey {α β : Type} [DecidableEq α] {f : α → Value} {g : β → Value} {b : Nat} {es : List (α × β)} {L' : List Ch} {d : TypeDesc} {k : α} {v : β} (ho : o.op = .mapUpdate t x y z) (ht : P.underlying t = some (.map kt et)) (hd : P.underlying kt = some d) (hf : KeyF d f)
    (hx : ev σ x = .map (some b)) [hX : ExM b L α β f g es L'] (hy : ev σ y = f k) (hv : ev σ z = g v) (hm : mget es k = none) (K1 : K (updo σ o.dst undef) G (omap f g b (es ++ [(k, v)]) :: L')) : OT P n o σ G L K := by
  refine OT.ofRunU fun w hs => ?_
  obtain ⟨c, a, hb, he⟩ := omap.at (hX := hX) hs
  have hfn := (findNow_mget (g := g) hf k a.toList es 0 he).1 hm
  refine ⟨G, _, { w with heap := w.heap.setIfInBounds b (.map (a.push { key := f k, val := g v, born := c }) (c + 1)) }, ?_, hs.set (o := .map (a.push { key := f k, val := g v, born := c }) (c + 1)) (by exact ⟨rfl, rfl, rfl⟩) hX.ex (b := b) (fun h hh => ?_) (fun y => ?_) (c' := omap f g b (es ++ [(k, v)])) (fun h hh _ => ?_), K1⟩
  · simp [execOp, ho, hx, hy, hv, Instr.mapUpdate, run_underlying ht, MapKept.run_getObj_map hb, MapKept.run_checkKey hd (hf.key k), MapKept.run_findKey hd hfn, MapKept.run_setObj_map _ hb, Result.andThen]
  · obtain ⟨c', a', h1, _⟩ := hh
    simp [h1]
  · have hset := MapKept.heap_set (o' := .map (a.push { key := f k, val := g v, born := c }) (c + 1)) hb
    by_cases e : y = b
    · subst e; simp only [wh, if_true]; exact hset.1
    · simp only [wh, e, if_false]; exact hset.2 y e
  · exact ⟨c + 1, a.push { key := f k, val := g v, born := c }, by simp, by simp [he]⟩
end
end Go.Proofs.YtmomfgfmnpblpaaGreat
