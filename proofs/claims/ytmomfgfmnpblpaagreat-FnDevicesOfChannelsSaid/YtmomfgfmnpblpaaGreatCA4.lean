/-
  Contracts of functions and plain facts that the last text of this folder uses, part 4.
-/
import Derived.Test.YtmomfgfmnpblpaaGreatCA3
namespace Go.Proofs.YtmomfgfmnpblpaaGreat
set_option linter.unusedVariables false
set_option linter.unusedSimpArgs false
open Go
set_option maxRecDepth 20000
set_option linter.unusedSimpArgs false
variable {G : Gh} {L : List Ch} {R : Value → Gh → List Ch → Prop}
theorem WP.cut4 {P : Program} {n : Nat} {Q : Post} {σ : Nat → Value} {x y : Code} {A B D E : Type} (keep : List Nat) (J : A → B → D → E → Prop) (S : A → B → D → E → List (Nat × Value)) (C : A → B → D → E → List Ch)
    (h : WP P n x (thenP (fun σ' G' L' => G' = G ∧ ∃ a b d e, J a b d e ∧ HasV σ' (S a b d e) ∧ Keeps σ' σ keep ∧ Cv L' (C a b d e)) Q) σ G L)
    (k : ∀ a b d e τ, J a b d e → WP P n y Q (upds (updk τ σ keep) (S a b d e)) G (C a b d e)) : WP P n (.seq x y) Q σ G L :=
  WP.cut1 keep (A := A × B × D × E) (fun x => J x.1 x.2.1 x.2.2.1 x.2.2.2) (fun x => S x.1 x.2.1 x.2.2.1 x.2.2.2) (fun x => C x.1 x.2.1 x.2.2.1 x.2.2.2) (WP.mono h fun e σ G L hq => by
      cases e with
      | normal => obtain ⟨e, a', b', d', e', h⟩ := hq; exact ⟨e, (a', b', d', e'), h⟩
      | _ => exact hq) fun a τ j => k a.1 a.2.1 a.2.2.1 a.2.2.2 τ j
theorem common_s {a b : Rect} (k : R (vrect (cmn a b)) G L) : CallT Tryz.prog 180 #[vrect a, vrect b] G L R := by
  refine CallT.enter (args := _) Tryz.func180 rfl rfl (by kernel_rfl) rfl ?_
  refine WP.seq ?_
  refine WP.region ?_
  refine RG.ot rfl (OT.box (cs := rectT.enc a) rfl rfl rfl fun b2 => ?_)
  refine RG.ot rfl (OT.box (cs := rectT.enc b) rfl rfl rfl fun b3 => ?_)
  refine RG.ot rfl (OT.alloc rfl Zr61 fun b4 => ?_)
  refine RG.nil ?_
  refine WP.seq ?_
  refine WP.region ?_
  refine RG.pv rfl (PV.field rfl Fo61_0 rfl) ?_
  refine RG.pv rfl (PV.load1 rfl Sc2 rfl (Rd.blk rfl)) ?_
  refine RG.pv rfl (PV.field rfl Fo61_0 rfl) ?_
  refine RG.pv rfl (PV.load1 rfl Sc2 rfl (Rd.blk rfl)) ?_
  refine RG.pv rfl (PV.max2 rfl rfl rfl) ?_
  refine RG.pv rfl (PV.field rfl Fo61_1 rfl) ?_
  refine RG.pv rfl (PV.load1 rfl Sc2 rfl (Rd.blk rfl)) ?_
  refine RG.pv rfl (PV.field rfl Fo61_1 rfl) ?_
  refine RG.pv rfl (PV.load1 rfl Sc2 rfl (Rd.blk rfl)) ?_
  refine RG.pv rfl (PV.max2 rfl rfl rfl) ?_
  refine RG.pv rfl (PV.field rfl Fo61_2 rfl) ?_
  refine RG.pv rfl (PV.load1 rfl Sc2 rfl (Rd.blk rfl)) ?_
  refine RG.pv rfl (PV.field rfl Fo61_2 rfl) ?_
  refine RG.pv rfl (PV.load1 rfl Sc2 rfl (Rd.blk rfl)) ?_
  refine RG.pv rfl (PV.min2 rfl rfl rfl) ?_
  refine RG.pv rfl (PV.field rfl Fo61_3 rfl) ?_
  refine RG.pv rfl (PV.load1 rfl Sc2 rfl (Rd.blk rfl)) ?_
  refine RG.pv rfl (PV.field rfl Fo61_3 rfl) ?_
  refine RG.pv rfl (PV.load1 rfl Sc2 rfl (Rd.blk rfl)) ?_
  refine RG.pv rfl (PV.min2 rfl rfl rfl) ?_
  refine RG.pv rfl (PV.build (vs := [(0, [vi _]), (1, [vi _]), (2, [vi _]), (3, [vi _])]) (out := [_, _, _, _]) rfl Zr61 Pl61 ⟨rfl, (Cl.c rfl), ⟨rfl, (Cl.c rfl), ⟨rfl, (Cl.c rfl), ⟨rfl, (Cl.c rfl), trivial⟩⟩⟩⟩ rfl) ?_
  refine RG.ot rfl (OT.storeW (vs := [vi _, vi _, vi _, vi _]) rfl Sz61 rfl rfl (Cl.c rfl) rfl rfl (OneC.c rfl) ?_)
  refine RG.nil ?_
  refine WP.ret ?_
  exact ⟨_, _, ResV.one rfl (RV1.cell rfl Ag61 rfl), Cv.p, k⟩
theorem ovl_s {a b : Rect} (k : R (.bool (ovl a b)) G L) : CallT Tryz.prog 220 #[vrect a, vrect b] G L R := by
  refine CallT.enter (args := _) Tryz.func220 rfl rfl (by kernel_rfl) rfl ?_
  refine WP.seq ?_
  refine WP.region ?_
  refine RG.ot rfl (OT.box (cs := rectT.enc a) rfl rfl rfl fun b2 => ?_)
  refine RG.ot rfl (OT.box (cs := rectT.enc b) rfl rfl rfl fun b3 => ?_)
  refine RG.pv rfl (PV.mvB (.inr rfl) rfl) ?_
  refine RG.nil ?_
  refine WP.seq ?_
  refine WP.region ?_
  refine RG.pv rfl (PV.loadW rfl Ag61 rfl rfl) ?_
  refine RG.callF (vs := [_]) rfl rfl En181 rfl (validRect_s ?_)
  refine RG.pv rfl (PV.mvB (.inl rfl) rfl) ?_
  refine RG.gs rfl rfl rfl (fun hp => (PV.loadW rfl Ag61 rfl rfl)) ?_
  refine RG.gsC rfl rfl rfl rfl En181 (fun hp => ⟨_, (acons (gs_t hp) anil), validRect_s ⟨rfl, rfl, rfl⟩⟩) ?_
  refine RG.pv rfl (PV.pickA rfl rfl (fun hq => gs_t (geqT hq)) rfl) ?_
  refine RG.pv rfl (PV.mvB (.inl rfl) rfl) ?_
  refine RG.gs rfl rfl rfl (fun hp => (PV.loadW rfl Ag61 rfl rfl)) ?_
  refine RG.gs rfl rfl rfl (fun hp => (PV.loadW rfl Ag61 rfl rfl)) ?_
  refine RG.gsC rfl rfl rfl rfl En180 (fun hp => ⟨_, (acons (gs_t hp) (acons (gs_t hp) anil)), common_s ⟨rfl, rfl, rfl⟩⟩) ?_
  refine RG.gsC rfl rfl rfl rfl En181 (fun hp => ⟨_, (acons (gs_t hp) anil), validRect_s ⟨rfl, rfl, rfl⟩⟩) ?_
  refine RG.pv rfl (PV.pickA rfl rfl (fun hq => gs_t (geqT hq)) rfl) ?_
  refine RG.pv rfl (PV.mvB (.inr rfl) rfl) ?_
  refine RG.nil ?_
  refine WP.ret ?_
  exact ⟨_, _, ResV.one rfl rfl, Cv.p, k⟩
theorem gd_mem {α : Type} [Inhabited α] {xs : List α} {i : Nat} (h : i < xs.length) : gd xs i ∈ xs := by rw [gd_eq h]; exact List.getElem_mem h
theorem any2_false {α : Type} [Inhabited α] {p : α → α → Bool} {xs ys : List α} (h : ∀ i, i < xs.length → ∀ j, j < ys.length → p (gd xs i) (gd ys j) = false) : (xs.any fun x => ys.any fun y => p x y) = false := by
  rw [List.any_eq_false]
  intro x hx
  obtain ⟨i, hi, rfl⟩ := List.getElem_of_mem hx
  rw [Bool.not_eq_true, List.any_eq_false]
  intro y hy
  obtain ⟨j, hj, rfl⟩ := List.getElem_of_mem hy
  have := h i hi j hj
  rw [gd_eq hi, gd_eq hj] at this; simp [this]
theorem any2_true {α : Type} [Inhabited α] {p : α → α → Bool} {xs ys : List α} {i j : Nat} (hi : i < xs.length) (hj : j < ys.length) (h : p (gd xs i) (gd ys j) = true) : (xs.any fun x => ys.any fun y => p x y) = true := by
  simp only [List.any_eq_true]
  exact ⟨gd xs i, gd_mem hi, gd ys j, gd_mem hj, h⟩
theorem row_next {p : Nat → Nat → Bool} {i m : Nat} (h : ∀ a, a < i → ∀ b, b < m → p a b = false) (h2 : ∀ b, b < m → p i b = false) : ∀ a, a < i + 1 → ∀ b, b < m → p a b = false := fun a ha b hb => by
  by_cases e : a = i
  · subst e; exact h2 b hb
  · exact h a (by omega) b hb
theorem col_next {p : Nat → Bool} {j : Nat} (h : ∀ b, b < j → p b = false) (h2 : p j = false) : ∀ b, b < j + 1 → p b = false := fun b hb => by
  by_cases e : b = j
  · subst e; exact h2
  · exact h b (by omega)
theorem meet_s {v u : Value} {xs ys : List Rect} (h1 : Rs G L rectT v xs) (h2 : Rs G L rectT u ys) (k : R (.bool (meetB xs ys)) G L) : CallT Tryz.prog 213 #[v, u] G L R := by
  refine CallT.bd h1 fun hb => ?_
  refine CallT.bd h2 fun hb' => ?_
  refine CallT.enter (args := _) Tryz.func213 rfl rfl (by kernel_rfl) rfl ?_
  refine WP.seq ?_
  refine WP.region ?_
  refine RG.pv rfl (PV.mvB (.inr rfl) rfl) ?_
  refine RG.nil ?_
  refine WP.seq ?_
  refine WP.seq ?_
  refine WP.region ?_
  refine RG.pv rfl (PV.move (v := v) rfl rfl) ?_
  refine RG.pv rfl (PV.len (v := v) rfl Tryz.underlying56 rfl (SlF.r h1)) ?_
  refine RG.pv rfl (PV.mvI (.inl rfl) rfl) ?_
  refine RG.nil ?_
  refine WP.block ?_
  refine WP.loop1 [1, 9, 10] (fun i => i ≤ xs.length ∧ ∀ p, p < i → ∀ q, q < ys.length → ovl (gd xs p) (gd ys q) = false) (fun i => [(11, vi i)]) (fun i => L) (fun i => xs.length - i) 0 ⟨by omega, fun p h => by omega⟩ ⟨rfl, trivial⟩ Cv.p ?_
  rintro i τ ⟨hi, hn⟩
  refine WP.seq ?_
  refine WP.region ?_
  refine RG.pv rfl (PV.lss rfl rfl rfl) ?_
  refine RG.nil ?_
  refine WP.seq ?_
  refine WP.cond rfl (fun h3 => ?_) (fun h3 => ?_)
  · have h3 := of_decide_eq_true h3
    refine WP.skip ?_
    refine WP.seq ?_
    refine WP.block ?_
    refine WP.seq ?_
    refine WP.region ?_
    refine RG.pv rfl (PV.idxS (v := v) rfl Is56 rfl (SlF.r h1) rfl rfl (by omega)) ?_
    refine RG.pv rfl (PV.loadE rfl Ag61 rfl rfl (El.r h1 (getG (by omega)))) ?_
    refine RG.ot rfl (OT.alloc rfl Zr61 fun b6 => ?_)
    refine RG.ot rfl (OT.storeW (vs := [vi _, vi _, vi _, vi _]) rfl Sz61 rfl rfl (Cl.c rfl) rfl rfl (OneC.c rfl) ?_)
    refine RG.nil ?_
    refine WP.seq ?_
    refine WP.region ?_
    refine RG.pv rfl (PV.move (v := u) rfl rfl) ?_
    refine RG.pv rfl (PV.len (v := u) rfl Tryz.underlying56 rfl (SlF.r h2)) ?_
    refine RG.pv rfl (PV.mvI (.inl rfl) rfl) ?_
    refine RG.nil ?_
    refine WP.block ?_
    refine WP.loop1 [1, 6, 9, 10, 11, 15, 16] (fun j => j ≤ ys.length ∧ ∀ q, q < j → ovl (gd xs i) (gd ys q) = false) (fun j => [(17, vi j)]) (fun j => blk b6 61 (rectT.enc (gd xs i)) :: L) (fun j => ys.length - j) 0 ⟨by omega, fun q h => by omega⟩ ⟨rfl, trivial⟩ Cv.p ?_
    rintro j τ1 ⟨hj, hm⟩
    refine WP.seq ?_
    refine WP.region ?_
    refine RG.pv rfl (PV.lss rfl rfl rfl) ?_
    refine RG.nil ?_
    refine WP.seq ?_
    refine WP.cond rfl (fun h4 => ?_) (fun h4 => ?_)
    · have h4 := of_decide_eq_true h4
      refine WP.skip ?_
      refine WP.seq ?_
      refine WP.block ?_
      refine WP.seq ?_
      refine WP.region ?_
      refine RG.pv rfl (PV.idxS (v := u) rfl Is56 rfl (SlF.r h2) rfl rfl (by omega)) ?_
      refine RG.pv rfl (PV.loadE rfl Ag61 rfl rfl (El.r h2 (getG (by omega)))) ?_
      refine RG.ot rfl (OT.alloc rfl Zr61 fun b8 => ?_)
      refine RG.ot rfl (OT.storeW (vs := [vi _, vi _, vi _, vi _]) rfl Sz61 rfl rfl (Cl.c rfl) rfl rfl (OneC.c rfl) ?_)
      refine RG.nil ?_
      refine WP.seq ?_
      refine WP.region ?_
      refine RG.pv rfl (PV.loadW rfl Ag61 rfl rfl) ?_
      refine RG.pv rfl (PV.loadW rfl Ag61 rfl rfl) ?_
      refine RG.callF (vs := [_, _]) rfl rfl En220 rfl (ovl_s ?_)
      refine RG.nil ?_
      refine WP.cond rfl (fun h5 => ?_) (fun h5 => ?_)
      · have e : meetB xs ys = true := any2_true (i := i) (j := j) (by omega) (by omega) h5
        rw [e] at k
        refine WP.seq ?_
        refine WP.region ?_
        refine RG.pv rfl (PV.mvB (.inr rfl) rfl) ?_
        refine RG.nil ?_
        refine WP.ret ?_
        exact ⟨_, _, ResV.one rfl rfl, Cv.p, k⟩
      · refine WP.skip ?_
        refine WP.region ?_
        refine RG.pv rfl (PV.add rfl rfl rfl (by omega)) ?_
        refine RG.pv rfl (PV.mvI (.inl rfl) rfl) ?_
        refine RG.nil ?_
        exact ⟨rfl, j + 1, ⟨by omega, col_next hm h5⟩, ⟨rfl, trivial⟩, ⟨rfl, rfl, rfl, rfl, rfl, rfl, rfl, trivial⟩, Cv.p, by omega⟩
    · have h4 := of_decide_eq_false h4
      obtain rfl : j = ys.length := by omega
      refine WP.exit ?_
      refine WP.region ?_
      refine RG.pv rfl (PV.add rfl rfl rfl (by omega)) ?_
      refine RG.pv rfl (PV.mvI (.inl rfl) rfl) ?_
      refine RG.nil ?_
      exact ⟨rfl, i + 1, ⟨by omega, row_next (p := fun a b => ovl (gd xs a) (gd ys b)) hn hm⟩, ⟨rfl, trivial⟩, ⟨rfl, rfl, rfl, trivial⟩, Cv.p, by omega⟩
  · have h3 := of_decide_eq_false h3
    obtain rfl : i = xs.length := by omega
    have e : meetB xs ys = false := any2_false hn
    rw [e] at k
    refine WP.exit ?_
    refine WP.seq ?_
    refine WP.region ?_
    refine RG.pv rfl (PV.mvB (.inr rfl) rfl) ?_
    refine RG.nil ?_
    refine WP.ret ?_
    exact ⟨_, _, ResV.one rfl rfl, Cv.p, k⟩
theorem meetIn_s {v u w : Value} {xs ys zs : List Rect} (h1 : Rs G L rectT v xs) (h2 : Rs G L rectT u ys) (h3 : Rs G L rectT w zs) (k : R (.bool (meetIn xs ys zs)) G L) : CallT Tryz.prog 190 #[v, u, w] G L R := by
  refine CallT.bd h1 fun hb => ?_
  refine CallT.bd h2 fun hb' => ?_
  refine CallT.enter (args := _) Tryz.func190 rfl rfl (by kernel_rfl) rfl ?_
  refine WP.seq ?_
  refine WP.region ?_
  refine RG.pv rfl (PV.mvB (.inr rfl) rfl) ?_
  refine RG.nil ?_
  refine WP.seq ?_
  refine WP.seq ?_
  refine WP.region ?_
  refine RG.pv rfl (PV.move (v := v) rfl rfl) ?_
  refine RG.pv rfl (PV.len (v := v) rfl Tryz.underlying56 rfl (SlF.r h1)) ?_
  refine RG.pv rfl (PV.mvI (.inl rfl) rfl) ?_
  refine RG.nil ?_
  refine WP.block ?_
  refine WP.loop1 [1, 2, 12, 13] (fun i => i ≤ xs.length ∧ ∀ p, p < i → ∀ q, q < ys.length → (validRect (cmn (gd xs p) (gd ys q)) && meetB [cmn (gd xs p) (gd ys q)] zs) = false) (fun i => [(14, vi i)]) (fun i => L) (fun i => xs.length - i) 0 ⟨by omega, fun p h => by omega⟩ ⟨rfl, trivial⟩ Cv.p ?_
  rintro i τ ⟨hi, hn⟩
  refine WP.seq ?_
  refine WP.region ?_
  refine RG.pv rfl (PV.lss rfl rfl rfl) ?_
  refine RG.nil ?_
  refine WP.seq ?_
  refine WP.cond rfl (fun h4 => ?_) (fun h4 => ?_)
  · have h4 := of_decide_eq_true h4
    refine WP.skip ?_
    refine WP.seq ?_
    refine WP.block ?_
    refine WP.seq ?_
    refine WP.region ?_
    refine RG.pv rfl (PV.idxS (v := v) rfl Is56 rfl (SlF.r h1) rfl rfl (by omega)) ?_
    refine RG.pv rfl (PV.loadE rfl Ag61 rfl rfl (El.r h1 (getG (by omega)))) ?_
    refine RG.ot rfl (OT.alloc rfl Zr61 fun b8 => ?_)
    refine RG.ot rfl (OT.storeW (vs := [vi _, vi _, vi _, vi _]) rfl Sz61 rfl rfl (Cl.c rfl) rfl rfl (OneC.c rfl) ?_)
    refine RG.nil ?_
    refine WP.seq ?_
    refine WP.region ?_
    refine RG.pv rfl (PV.move (v := u) rfl rfl) ?_
    refine RG.pv rfl (PV.len (v := u) rfl Tryz.underlying56 rfl (SlF.r h2)) ?_
    refine RG.pv rfl (PV.mvI (.inl rfl) rfl) ?_
    refine RG.nil ?_
    refine WP.block ?_
    refine WP.loop1 [1, 2, 8, 12, 13, 14, 18, 19] (fun j => j ≤ ys.length ∧ ∀ q, q < j → (validRect (cmn (gd xs i) (gd ys q)) && meetB [cmn (gd xs i) (gd ys q)] zs) = false) (fun j => [(20, vi j)]) (fun j => blk b8 61 (rectT.enc (gd xs i)) :: L) (fun j => ys.length - j) 0 ⟨by omega, fun q h => by omega⟩ ⟨rfl, trivial⟩ Cv.p ?_
    rintro j τ1 ⟨hj, hm⟩
    refine WP.seq ?_
    refine WP.region ?_
    refine RG.pv rfl (PV.lss rfl rfl rfl) ?_
    refine RG.nil ?_
    refine WP.seq ?_
    refine WP.cond rfl (fun h5 => ?_) (fun h5 => ?_)
    · have h5 := of_decide_eq_true h5
      refine WP.skip ?_
      refine WP.seq ?_
      refine WP.block ?_
      refine WP.seq ?_
      refine WP.region ?_
      refine RG.pv rfl (PV.idxS (v := u) rfl Is56 rfl (SlF.r h2) rfl rfl (by omega)) ?_
      refine RG.pv rfl (PV.loadE rfl Ag61 rfl rfl (El.r h2 (getG (by omega)))) ?_
      refine RG.ot rfl (OT.alloc rfl Zr61 fun b10 => ?_)
      refine RG.ot rfl (OT.storeW (vs := [vi _, vi _, vi _, vi _]) rfl Sz61 rfl rfl (Cl.c rfl) rfl rfl (OneC.c rfl) ?_)
      refine RG.nil ?_
      refine WP.seq ?_
      refine WP.region ?_
      refine RG.pv rfl (PV.loadW rfl Ag61 rfl rfl) ?_
      refine RG.pv rfl (PV.loadW rfl Ag61 rfl rfl) ?_
      refine RG.callF (vs := [_, _]) rfl rfl En180 rfl (common_s ?_)
      refine RG.ot rfl (OT.alloc rfl Zr61 fun b11 => ?_)
      refine RG.ot rfl (OT.storeW (vs := [vi _, vi _, vi _, vi _]) rfl Sz61 rfl rfl (Cl.c rfl) rfl rfl (OneC.c rfl) ?_)
      refine RG.nil ?_
      refine WP.seq ?_
      refine WP.region ?_
      refine RG.pv rfl (PV.loadW rfl Ag61 rfl rfl) ?_
      refine RG.callF (vs := [_]) rfl rfl En181 rfl (validRect_s ?_)
      refine RG.pv rfl (PV.mvB (.inl rfl) rfl) ?_
      refine RG.spl (t := 29) rfl (fun h6 => ?_) (fun h6 => ?_)
      · refine RG.take rfl rfl rfl h6 ?_
        refine RG.pv rfl (PV.loadW rfl Ag61 rfl rfl) ?_
        refine RG.take rfl rfl rfl h6 ?_
        refine RG.ot rfl (OT.bslice (F := rectT) (els := [_]) rfl El56 rfl (by decide) rfl (by decide) ⟨rfl, (Cl.c rfl), trivial⟩ fun v31 => ?_)
        refine RG.take rfl rfl rfl h6 ?_
        refine RG.pv rfl (PV.move (v := w) rfl rfl) ?_
        refine RG.take rfl rfl rfl h6 ?_
        refine RG.callF (vs := [v31, w]) rfl rfl En213 rfl (meet_s Rs.o (Rs.up h3) ?_)
        refine RG.pv rfl (PV.pickT rfl rfl h6 rfl) ?_
        refine RG.nil ?_
        refine WP.cond rfl (fun h7 => ?_) (fun h7 => ?_)
        · have e : meetIn xs ys zs = true := any2_true (p := fun x y => validRect (cmn x y) && meetB [cmn x y] zs) (i := i) (j := j) (by omega) (by omega) (by rw [h6]; exact h7)
          rw [e] at k
          refine WP.seq ?_
          refine WP.region ?_
          refine RG.pv rfl (PV.mvB (.inr rfl) rfl) ?_
          refine RG.nil ?_
          refine WP.ret ?_
          exact ⟨_, _, ResV.one rfl rfl, Cv.p, k⟩
        · refine WP.skip ?_
          refine WP.region ?_
          refine RG.pv rfl (PV.add rfl rfl rfl (by omega)) ?_
          refine RG.pv rfl (PV.mvI (.inl rfl) rfl) ?_
          refine RG.nil ?_
          exact ⟨rfl, j + 1, ⟨by omega, col_next hm (by rw [h6]; exact h7)⟩, ⟨rfl, trivial⟩, ⟨rfl, rfl, rfl, rfl, rfl, rfl, rfl, rfl, trivial⟩, Cv.p, by omega⟩
      · refine RG.skip rfl rfl rfl (gne h6) ?_
        refine RG.skip rfl rfl rfl (gne h6) ?_
        refine RG.skip rfl rfl rfl (gne h6) ?_
        refine RG.skip rfl rfl rfl (gne h6) ?_
        refine RG.pv rfl (PV.pickE rfl rfl h6 rfl) ?_
        refine RG.nil ?_
        refine WP.cond rfl (fun h7 => ?_) (fun h7 => ?_)
        · cases h7
        · refine WP.skip ?_
          refine WP.region ?_
          refine RG.pv rfl (PV.add rfl rfl rfl (by omega)) ?_
          refine RG.pv rfl (PV.mvI (.inl rfl) rfl) ?_
          refine RG.nil ?_
          exact ⟨rfl, j + 1, ⟨by omega, col_next hm (by rw [h6]; rfl)⟩, ⟨rfl, trivial⟩, ⟨rfl, rfl, rfl, rfl, rfl, rfl, rfl, rfl, trivial⟩, Cv.p, by omega⟩
    · have h5 := of_decide_eq_false h5
      obtain rfl : j = ys.length := by omega
      refine WP.exit ?_
      refine WP.region ?_
      refine RG.pv rfl (PV.add rfl rfl rfl (by omega)) ?_
      refine RG.pv rfl (PV.mvI (.inl rfl) rfl) ?_
      refine RG.nil ?_
      exact ⟨rfl, i + 1, ⟨by omega, row_next (p := fun a b => validRect (cmn (gd xs a) (gd ys b)) && meetB [cmn (gd xs a) (gd ys b)] zs) hn hm⟩, ⟨rfl, trivial⟩, ⟨rfl, rfl, rfl, rfl, trivial⟩, Cv.p, by omega⟩
  · have h4 := of_decide_eq_false h4
    obtain rfl : i = xs.length := by omega
    have e : meetIn xs ys zs = false := any2_false (p := fun x y => validRect (cmn x y) && meetB [cmn x y] zs) hn
    rw [e] at k
    refine WP.exit ?_
    refine WP.seq ?_
    refine WP.region ?_
    refine RG.pv rfl (PV.mvB (.inr rfl) rfl) ?_
    refine RG.nil ?_
    refine WP.ret ?_
    exact ⟨_, _, ResV.one rfl rfl, Cv.p, k⟩
end Go.Proofs.YtmomfgfmnpblpaaGreat
namespace Go.Proofs.YtmomfgfmnpblpaaGreat
set_option linter.unusedVariables false
set_option linter.unusedSimpArgs false
open Go
set_option maxRecDepth 20000
set_option linter.unusedSimpArgs false
variable {G : Gh} {L : List Ch} {R : Value → Gh → List Ch → Prop}
theorem rng_any {p : Nat → Bool} {n i : Nat} (h : i < n) (hp : p i = true) : (List.range n).any p = true := List.any_eq_true.2 ⟨i, List.mem_range.2 h, hp⟩
theorem rng_none {p : Nat → Bool} {n : Nat} (h : ∀ i, i < n → p i = false) : (List.range n).any p = false := List.any_eq_false.2 fun i hi => by simp [h i (List.mem_range.1 hi)]
def jnN (p q : Int × List Bool) (C V : List Bool) (n : Nat) : Bool := gd p.2 n && gd q.2 n && (gd C n && (decide (p.1 = 3) || decide (q.1 = 3)) && !(decide (p.1 = 5) || decide (q.1 = 5)) || gd V n && (decide (p.1 = 3) || decide (q.1 = 3)) && (decide (p.1 = 5) || decide (q.1 = 5)))
theorem jnR_N (p q : Int × List Bool) (C V : List Bool) : jnR p q C V = (List.range 6400).any (jnN p q C V) := rfl
theorem jnN_er (p q : Part) (C V : List Bool) (n : Nat) : jnN (erC p) (erC q) C V n = (gd p.cells.xs n && gd q.cells.xs n && (gd C n && (decide (p.layer = 3) || decide (q.layer = 3)) && !(decide (p.layer = 5) || decide (q.layer = 5)) || gd V n && (decide (p.layer = 3) || decide (q.layer = 3)) && (decide (p.layer = 5) || decide (q.layer = 5)))) := rfl
theorem l23Joined_s {p q : Part} {vc vv : Value} {C V : List Bool} (hp : Rs G L boolT p.cells.v p.cells.xs) (hq : Rs G L boolT q.cells.v q.cells.xs) (h1 : Rs G L boolT vc C) (h2 : Rs G L boolT vv V) (hpl : p.cells.xs.length = 6400) (hql : q.cells.xs.length = 6400) (hC : C.length = 6400) (hV : V.length = 6400)
    (k : R (.bool (jnR (erC p) (erC q) C V)) G L) : CallT Tryz.prog 87 #[vT partT p, vT partT q, vc, vv] G L R := by
  rw [jnR_N] at k
  refine CallT.enter (args := _) Tryz.func87 rfl rfl (by kernel_rfl) rfl ?_
  refine WP.seq ?_
  refine WP.region ?_
  refine RG.ot rfl (OT.box (cs := partT.enc p) rfl rfl rfl fun b4 => ?_)
  refine RG.ot rfl (OT.box (cs := partT.enc q) rfl rfl rfl fun b5 => ?_)
  refine RG.pv rfl (PV.mvB (.inr rfl) rfl) ?_
  refine RG.nil ?_
  refine WP.seq ?_
  refine WP.seq ?_
  refine WP.region ?_
  refine RG.pv rfl (PV.mvI (.inr rfl) rfl) ?_
  refine RG.nil ?_
  refine WP.block ?_
  refine WP.loop1 [2, 3, 4, 5] (fun i => i ≤ 6400 ∧ ∀ j, j < i → jnN (erC p) (erC q) C V j = false) (fun i => [(9, vi i)]) (fun i => blk b4 127 (partT.enc p) :: blk b5 127 (partT.enc q) :: L) (fun i => 6400 - i) 0 ⟨by omega, fun j h => by omega⟩ ⟨rfl, trivial⟩ Cv.p ?_
  rintro i τ ⟨hi, hn⟩
  refine WP.seq ?_
  refine WP.seq ?_
  refine WP.region ?_
  refine RG.pv rfl (PV.mvI (.inl rfl) rfl) ?_
  refine RG.pv rfl (PV.move (v := vc) rfl rfl) ?_
  refine RG.pv rfl (PV.len (v := vc) rfl Tryz.underlying124 rfl (SlF.r h1)) ?_
  refine RG.pv rfl (PV.lss rfl rfl rfl) ?_
  refine RG.nil ?_
  refine WP.cond rfl (fun h3 => ?_) (fun h3 => ?_)
  · have h3 := of_decide_eq_true h3
    have h4 : i < 6400 := by omega
    refine WP.skip ?_
    refine WP.seq ?_
    refine WP.block ?_
    refine WP.seq ?_
    refine WP.seq ?_
    refine WP.region ?_
    refine RG.pv rfl (PV.field rfl Fo127_1 rfl) ?_
    refine RG.pv rfl (PV.load1 rfl Sc124 rfl (Rd.blk rfl)) ?_
    refine RG.pv rfl (PV.mvI (.inl rfl) rfl) ?_
    refine RG.pv rfl (PV.idxS rfl Is124 rfl (SlF.r hp) rfl rfl (by omega)) ?_
    refine RG.pv rfl (PV.loadE1 rfl Sc4 rfl rfl (El.r hp (getG (by omega))) rfl) ?_
    refine RG.pv rfl (PV.not rfl rfl) ?_
    refine RG.pv rfl (PV.mvB (.inl rfl) rfl) ?_
    refine RG.gs rfl rfl rfl (fun hp => (PV.field rfl Fo127_1 rfl)) ?_
    refine RG.gs rfl rfl rfl (fun hp => (PV.load1 rfl Sc124 (gs_t hp) (Rd.blk rfl))) ?_
    refine RG.gs rfl rfl rfl (fun hp => (PV.mvI (.inl rfl) rfl)) ?_
    refine RG.gs rfl rfl rfl (fun hp => (PV.idxS rfl Is124 (gs_t hp) (SlF.r hq) (gs_t hp) rfl (by first | omega | (simp at hp; omega)))) ?_
    refine RG.gs rfl rfl rfl (fun hp => (PV.loadE1 rfl Sc4 (gs_t hp) rfl (El.r hq (getG (by first | omega | (simp at hp; omega)))) rfl)) ?_
    refine RG.gs rfl rfl rfl (fun hp => (PV.not rfl (gs_t hp))) ?_
    refine RG.pv rfl (PV.pickO rfl rfl rfl (fun hq => gs_t (geqF hq))) ?_
    refine RG.nil ?_
    refine WP.cond rfl (fun h5 => ?_) (fun h5 => ?_)
    · refine WP.exit ?_
      refine WP.region ?_
      refine RG.pv rfl (PV.mvI (.inl rfl) rfl) ?_
      refine RG.pv rfl (PV.add rfl rfl rfl (by omega)) ?_
      refine RG.pv rfl (PV.mvI (.inr rfl) rfl) ?_
      refine RG.nil ?_
      refine ⟨rfl, i + 1, ⟨by omega, col_next hn ?_⟩, ⟨rfl, trivial⟩, ⟨rfl, rfl, rfl, rfl, trivial⟩, Cv.p, by omega⟩
      rw [jnN_er]; revert h5; cases gd p.cells.xs i <;> cases gd q.cells.xs i <;> simp
    · refine WP.skip ?_
      refine WP.seq ?_
      refine WP.region ?_
      refine RG.pv rfl (PV.field rfl Fo127_0 rfl) ?_
      refine RG.pv rfl (PV.load1 rfl Sc2 rfl (Rd.blk rfl)) ?_
      refine RG.pv rfl (PV.eql rfl rfl rfl) ?_
      refine RG.pv rfl (PV.mvB (.inl rfl) rfl) ?_
      refine RG.gs rfl rfl rfl (fun hp => (PV.field rfl Fo127_0 rfl)) ?_
      refine RG.gs rfl rfl rfl (fun hp => (PV.load1 rfl Sc2 (gs_t hp) (Rd.blk rfl))) ?_
      refine RG.gs rfl rfl rfl (fun hp => (PV.eql rfl (gs_t hp) rfl)) ?_
      refine RG.pv rfl (PV.pickO rfl rfl rfl (fun hq => gs_t (geqF hq))) ?_
      refine RG.pv rfl (PV.mvB (.inr rfl) rfl) ?_
      refine RG.nil ?_
      refine WP.seq ?_
      refine WP.region ?_
      refine RG.pv rfl (PV.field rfl Fo127_0 rfl) ?_
      refine RG.pv rfl (PV.load1 rfl Sc2 rfl (Rd.blk rfl)) ?_
      refine RG.pv rfl (PV.eql rfl rfl rfl) ?_
      refine RG.pv rfl (PV.mvB (.inl rfl) rfl) ?_
      refine RG.gs rfl rfl rfl (fun hp => (PV.field rfl Fo127_0 rfl)) ?_
      refine RG.gs rfl rfl rfl (fun hp => (PV.load1 rfl Sc2 (gs_t hp) (Rd.blk rfl))) ?_
      refine RG.gs rfl rfl rfl (fun hp => (PV.eql rfl (gs_t hp) rfl)) ?_
      refine RG.pv rfl (PV.pickO rfl rfl rfl (fun hq => gs_t (geqF hq))) ?_
      refine RG.pv rfl (PV.mvB (.inr rfl) rfl) ?_
      refine RG.nil ?_
      refine WP.seq ?_
      refine WP.region ?_
      refine RG.pv rfl (PV.move (v := vc) rfl rfl) ?_
      refine RG.pv rfl (PV.mvI (.inl rfl) rfl) ?_
      refine RG.pv rfl (PV.idxS (v := vc) rfl Is124 rfl (SlF.r h1) rfl rfl (by omega)) ?_
      refine RG.pv rfl (PV.loadE1 rfl Sc4 rfl rfl (El.r h1 (getG (by omega))) rfl) ?_
      refine RG.pv rfl (PV.mvB (.inl rfl) rfl) ?_
      refine RG.gs rfl rfl rfl (fun hp => (PV.mvB (.inl rfl) rfl)) ?_
      refine RG.pv rfl (PV.pickA rfl rfl (fun hq => gs_t (geqT hq)) rfl) ?_
      refine RG.pv rfl (PV.mvB (.inl rfl) rfl) ?_
      refine RG.gs rfl rfl rfl (fun hp => (PV.mvB (.inl rfl) rfl)) ?_
      refine RG.gs rfl rfl rfl (fun hp => (PV.not rfl (gs_t hp))) ?_
      refine RG.pv rfl (PV.pickA rfl rfl (fun hq => gs_t (geqT hq)) rfl) ?_
      refine RG.pv rfl (PV.mvB (.inl rfl) rfl) ?_
      refine RG.gs rfl rfl rfl (fun hp => (PV.move (v := vv) rfl rfl)) ?_
      refine RG.gs rfl rfl rfl (fun hp => (PV.mvI (.inl rfl) rfl)) ?_
      refine RG.gs rfl rfl rfl (fun hp => (PV.idxS (v := vv) rfl Is124 (gs_t hp) (SlF.r h2) (gs_t hp) rfl (by first | omega | (simp at hp; omega)))) ?_
      refine RG.gs rfl rfl rfl (fun hp => (PV.loadE1 rfl Sc4 (gs_t hp) rfl (El.r h2 (getG (by first | omega | (simp at hp; omega)))) rfl)) ?_
      refine RG.gs rfl rfl rfl (fun hp => (PV.mvB (.inl rfl) (gs_t hp))) ?_
      refine RG.gs2 rfl rfl rfl (fun hp => (PV.mvB (.inl rfl) rfl)) ?_
      refine RG.gs rfl rfl rfl (fun hp => (PV.pickA rfl (gs_t hp) (fun hq => gs_t (gandT hp hq)) rfl)) ?_
      refine RG.gs rfl rfl rfl (fun hp => (PV.mvB (.inl rfl) (gs_t hp))) ?_
      refine RG.gs2 rfl rfl rfl (fun hp => (PV.mvB (.inl rfl) rfl)) ?_
      refine RG.gs rfl rfl rfl (fun hp => (PV.pickA rfl (gs_t hp) (fun hq => gs_t (gandT hp hq)) rfl)) ?_
      refine RG.pv rfl (PV.pickO rfl rfl rfl (fun hq => gs_t (geqF hq))) ?_
      refine RG.nil ?_
      refine WP.cond rfl (fun h6 => ?_) (fun h6 => ?_)
      · rw [rng_any h4 (by rw [jnN_er]; revert h5 h6; cases gd p.cells.xs i <;> cases gd q.cells.xs i <;> simp)] at k
        refine WP.seq ?_
        refine WP.region ?_
        refine RG.pv rfl (PV.mvB (.inr rfl) rfl) ?_
        refine RG.nil ?_
        refine WP.ret ?_
        exact ⟨_, _, ResV.one rfl rfl, Cv.p, k⟩
      · refine WP.skip ?_
        refine WP.region ?_
        refine RG.pv rfl (PV.mvI (.inl rfl) rfl) ?_
        refine RG.pv rfl (PV.add rfl rfl rfl (by omega)) ?_
        refine RG.pv rfl (PV.mvI (.inr rfl) rfl) ?_
        refine RG.nil ?_
        refine ⟨rfl, i + 1, ⟨by omega, col_next hn ?_⟩, ⟨rfl, trivial⟩, ⟨rfl, rfl, rfl, rfl, trivial⟩, Cv.p, by omega⟩
        rw [jnN_er]; revert h5 h6; cases gd p.cells.xs i <;> cases gd q.cells.xs i <;> simp
  · have h3 := of_decide_eq_false h3
    rw [rng_none fun j hj => hn j (by omega)] at k
    refine WP.exit ?_
    refine WP.seq ?_
    refine WP.region ?_
    refine RG.pv rfl (PV.mvB (.inr rfl) rfl) ?_
    refine RG.nil ?_
    refine WP.ret ?_
    exact ⟨_, _, ResV.one rfl rfl, Cv.p, k⟩
theorem gd_app_c {α : Type} [Inhabited α] {xs ys : List α} {i : Nat} (h : i < xs.length) : gd (xs ++ ys) i = gd xs i := gd_app_l h
theorem inJ_vals {J : Nat → Nat → Bool} {i k : Nat} (hk : k ≤ i) : Rt (inJ J i (rootsJ J i) k) := by
  have := (rt_roots J i).inJ (J := J) k (by rw [rootsJ_len]; exact hk)
  rwa [rootsJ_len] at this
theorem inJ_le {J : Nat → Nat → Bool} {i k j : Nat} (hk : k ≤ i) (hj : j ≤ i) : 0 ≤ gd (inJ J i (rootsJ J i) k) j ∧ gd (inJ J i (rootsJ J i) k) j ≤ j := by
  have := inJ_vals (J := J) hk j (by rw [inJ_len, rootsJ_len]; omega)
  exact ⟨this.1, this.2.1⟩
theorem inJ_full {J : Nat → Nat → Bool} {i : Nat} : inJ J i (rootsJ J i) i = rootsJ J (i + 1) := rfl
theorem stepJ_same {J : Nat → Nat → Bool} {i k : Nat} {c : List Int} (h : gd c k = gd c i ∨ J k i = false) : stepJ J i c k = c := by rw [stepJ, if_pos h]
theorem stepJ_map {J : Nat → Nat → Bool} {i k : Nat} {c : List Int} (h : ¬ (gd c k = gd c i ∨ J k i = false)) : stepJ J i c k = c.map (rl (min (gd c k) (gd c i)) (max (gd c k) (gd c i))) := by rw [stepJ, if_neg h]
theorem pcL_gd_len {l : List (List Rect)} {i : Nat} (h : i < (pcL l 4).length) : (gd (pcL l 4) i).2.length = 6400 := pcL_mem (n := 4) (l := l) (by rw [gd_eq h]; exact List.getElem_mem h)
theorem pcL_gd_isL {l : List (List Rect)} {i : Nat} (h : i < (pcL l 4).length) : isL (gd (pcL l 4) i).1 := pcL_isL (by rw [gd_eq h]; exact List.getElem_mem h)
theorem l23Roots_s {v u : Value} {xs : List (Sl Rect)} {cs : List Part} (h1 : Rs G L partT u cs) (hcd : RsE G L boolT (cels cs)) (h2 : Rs G L slT v xs) (hd : RsE G L rectT xs) (hlay : isLay (er xs) = true) (hcs : cs.map erC = pcL (er xs) 4) (k : ∀ v', R v' G (osl 2 intT v' (clsL (er xs)) :: L)) : CallT Tryz.prog 49 #[u, v] G L R := by
  have h8 : xs.length = 8 := by have := isLay_len hlay; rwa [er_len] at this
  have hreg : ∀ i, i < 8 → isReg (gd xs i).xs = true := fun i hi => by rw [← er_gd]; exact isLay_reg hlay hi
  have hcl : cs.length = (pcL (er xs) 4).length := by rw [← hcs, List.length_map]
  have hpl := pcL_len (er xs) 4
  have hce : ∀ i, i < cs.length → erC (gd cs i) = gd (pcL (er xs) 4) i := fun i hi => by rw [← hcs, gd_map _ hi]
  have hc6 : ∀ i, i < cs.length → (gd cs i).cells.xs.length = 6400 := fun i hi => by
    have := pcL_gd_len (l := er xs) (i := i) (by omega)
    rw [← hce i hi] at this; exact this
  have hcr : ∀ i, i < cs.length → Rs G L boolT (gd cs i).cells.v (gd cs i).cells.xs := fun i hi => by
    have := hcd i (by rw [cels_len]; exact hi); rwa [cels_gd hi] at this
  refine CallT.enter (args := _) Tryz.func49 rfl rfl (by kernel_rfl) rfl ?_
  refine WP.seq ?_
  refine WP.region ?_
  refine RG.pv rfl (PV.asg rfl rfl) ?_
  refine RG.nil ?_
  refine WP.seq ?_
  refine WP.regionH0 (.q 0 (.q 1 (.q 2 (.q 4 (.q 5 (.q 6 (.l 3 (.l 7 (.q 8 (.q 9 Sch.nil)))))))))) (by kernel_rfl) (by kernel_rfl) (by kernel_rfl) rfl ?_
  refine RH.pv rfl (fun _ _ _ _ h => h) (Gh.le_refl _) PickC.pick rfl (PV.move (v := v) rfl rfl) ?_
  refine RH.pv rfl (fun _ _ _ _ h => h) (Gh.le_refl _) PickC.pick rfl (PV.idxS (j := 2) (v := v) rfl Is29 rfl (SlF.r h2) rfl (by omega) (by omega)) ?_
  refine RH.pv rfl (fun _ _ _ _ h => h) (Gh.le_refl _) PickC.pick rfl (PV.loadE1 rfl Sc56 rfl rfl (El.r h2 (getG (by omega))) rfl) ?_
  refine RH.pv rfl (fun _ _ _ _ h => h) (Gh.le_refl _) PickC.pick rfl (PV.move (v := v) rfl rfl) ?_
  refine RH.pv rfl (fun _ _ _ _ h => h) (Gh.le_refl _) PickC.pick rfl (PV.idxS (j := 4) (v := v) rfl Is29 rfl (SlF.r h2) rfl (by omega) (by omega)) ?_
  refine RH.pv rfl (fun _ _ _ _ h => h) (Gh.le_refl _) PickC.pick rfl (PV.loadE1 rfl Sc56 rfl rfl (El.r h2 (getG (by omega))) rfl) ?_
  refine RH.ot rfl rfl (OT.callF (vs := [_]) rfl En86 rfl (l03Bits_s (Rs.up (hd _ (by omega))) (fun i hi => valid_get (isReg_valid (hreg _ (by omega))) hi) (fun v16 => ⟨Gh.le_refl _, PickC.pick, ?_⟩)))
  refine RH.ot rfl rfl (OT.callF (vs := [_]) rfl En86 rfl (l03Bits_s (Rs.up (hd _ (by omega))) (fun i hi => valid_get (isReg_valid (hreg _ (by omega))) hi) (fun v20 => ⟨Gh.le_refl _, PickC.pick, ?_⟩)))
  refine RH.pv rfl (fun _ _ _ _ h => h) (Gh.le_refl _) PickC.pick rfl (PV.asg (v := v16) rfl rfl) ?_
  refine RH.pv rfl (fun _ _ _ _ h => h) (Gh.le_refl _) PickC.pick rfl (PV.asg (v := v20) rfl rfl) ?_
  refine RH.nil ?_
  refine WP.seq ?_
  refine WP.region ?_
  refine RG.ot rfl (OT.bslice (F := intT) (els := []) rfl El26 rfl (by decide) rfl (by decide) trivial fun v21 => ?_)
  refine RG.pv rfl (PV.asg (v := v21) rfl rfl) ?_
  refine RG.nil ?_
  refine WP.seq ?_
  refine WP.seq ?_
  refine WP.region ?_
  refine RG.pv rfl (PV.mvI (.inr rfl) rfl) ?_
  refine RG.nil ?_
  refine WP.block ?_
  refine WP.cv (Cv.p (C := osl 2 intT v21 ([] : List Int) :: osl 4 boolT v16 (bits (gd xs 2).xs) :: osl 4 boolT v20 (bits (gd xs 4).xs) :: L)) ?_
  refine WP.cv (Cv.eqS (show [] = rootsJ (JL (er xs)) 0 from rfl)) ?_
  refine WP.loop2 [0, 5, 6] (fun (i : Nat) (q : Value) => i ≤ cs.length) (fun (i : Nat) (q : Value) => [(8, vi i), (7, q)]) (fun (i : Nat) (q : Value) => osl 2 intT q (rootsJ (JL (er xs)) i) :: osl 4 boolT v16 (bits (gd xs 2).xs) :: osl 4 boolT v20 (bits (gd xs 4).xs) :: L) (fun (i : Nat) (q : Value) => cs.length - i) 0 v21 (by omega) ⟨rfl, rfl, trivial⟩ Cv.p ?_
  rintro i q τ hi
  refine WP.seq ?_
  refine WP.seq ?_
  refine WP.region ?_
  refine RG.pv rfl (PV.mvI (.inl rfl) rfl) ?_
  refine RG.pv rfl (PV.move (v := u) rfl rfl) ?_
  refine RG.pv rfl (PV.len (v := u) rfl Tryz.underlying79 rfl (SlF.r h1)) ?_
  refine RG.pv rfl (PV.lss rfl rfl rfl) ?_
  refine RG.nil ?_
  have hrl := rootsJ_len (JL (er xs)) i
  refine WP.cond rfl (fun h3 => ?_) (fun h3 => ?_)
  · have h3 := of_decide_eq_true h3
    have h4 : i < cs.length := by omega
    refine WP.skip ?_
    refine WP.seq ?_
    refine WP.block ?_
    refine WP.seq ?_
    refine WP.region ?_
    refine RG.pv rfl (PV.move (v := q) rfl rfl) ?_
    refine RG.pv rfl (PV.mvI (.inl rfl) rfl) ?_
    refine RG.ot rfl (OT.bslice (F := intT) (els := [_]) rfl El26 rfl (by decide) rfl (by decide) ⟨rfl, (Cl.c rfl), trivial⟩ fun v30 => ?_)
    refine RG.ot rfl (OT.append (v := q) (u := v30) (F := intT) rfl El26 rfl (by decide) rfl rfl Rs.o (OneL.c (fun _ => rfl)) rfl (by first | omega | (simp <;> omega)) fun v31 => ?_)
    refine RG.pv rfl (PV.asg (v := v31) rfl rfl) ?_
    refine RG.nil ?_
    refine WP.seq ?_
    refine WP.region ?_
    refine RG.pv rfl (PV.mvI (.inr rfl) rfl) ?_
    refine RG.nil ?_
    refine WP.block ?_
    refine WP.cv (Cv.eqS (inJ_zero (JL (er xs)) i (rootsJ (JL (er xs)) i)).symm) ?_
    refine WP.loop1 [0, 5, 6, 7, 8] (fun n => n ≤ i) (fun n => [(9, vi n)]) (fun n => osl 2 intT v31 (inJ (JL (er xs)) i (rootsJ (JL (er xs)) i) n) :: osl 4 boolT v16 (bits (gd xs 2).xs) :: osl 4 boolT v20 (bits (gd xs 4).xs) :: L) (fun n => i - n) 0 (by omega) ⟨rfl, trivial⟩ Cv.p ?_
    rintro n τ1 hn
    refine WP.seq ?_
    refine WP.seq ?_
    refine WP.region ?_
    refine RG.pv rfl (PV.mvI (.inl rfl) rfl) ?_
    refine RG.pv rfl (PV.mvI (.inl rfl) rfl) ?_
    refine RG.pv rfl (PV.lss rfl rfl rfl) ?_
    refine RG.nil ?_
    have hil := inJ_len (JL (er xs)) i (rootsJ (JL (er xs)) i) n
    have hil2 : (inJ (JL (er xs)) i (rootsJ (JL (er xs)) i) n).length = i + 1 := by omega
    have hin := fun j hj => inJ_le (J := JL (er xs)) (i := i) (k := n) (j := j) hn hj
    have hJe : ∀ n, n < cs.length → JL (er xs) n i = (!decide ((gd cs n).layer = (gd cs i).layer) && jnR (erC (gd cs n)) (erC (gd cs i)) (bits (gd xs 2).xs) (bits (gd xs 4).xs)) := fun n h => by
      rw [JL, jnL, ← hce n h, ← hce i h4, er_gd, er_gd]; rfl
    have hsc := inJ_succ (JL (er xs)) i (rootsJ (JL (er xs)) i) n
    generalize hceq : inJ (JL (er xs)) i (rootsJ (JL (er xs)) i) n = c at *
    refine WP.cond rfl (fun h5 => ?_) (fun h5 => ?_)
    · have h5 := of_decide_eq_true h5
      have h6 : n < i := by omega
      refine WP.skip ?_
      refine WP.seq ?_
      refine WP.block ?_
      refine WP.seq ?_
      refine WP.seq ?_
      refine WP.regionQ (by kernel_rfl) (by kernel_rfl) ?_
      refine RQ.pv rfl (PV.move (v := u) rfl rfl) ?_
      refine RQ.pv rfl (PV.mvI (.inl rfl) rfl) ?_
      refine RQ.pv rfl (PV.idxS (v := u) rfl Is79 rfl (SlF.r h1) rfl rfl (by omega)) ?_
      refine RQ.pv rfl (PV.field rfl Fo127_0 rfl) ?_
      refine RQ.pv rfl (PV.loadF rfl Sc2 rfl rfl (El.r h1 (getG (by omega))) rfl) ?_
      refine RQ.pv rfl (PV.move (v := u) rfl rfl) ?_
      refine RQ.pv rfl (PV.mvI (.inl rfl) rfl) ?_
      refine RQ.pv rfl (PV.idxS (v := u) rfl Is79 rfl (SlF.r h1) rfl rfl (by omega)) ?_
      refine RQ.pv rfl (PV.field rfl Fo127_0 rfl) ?_
      refine RQ.pv rfl (PV.loadF rfl Sc2 rfl rfl (El.r h1 (getG (by omega))) rfl) ?_
      refine RQ.pv rfl (PV.eql rfl rfl rfl) ?_
      refine RQ.pv rfl (PV.mvB (.inl rfl) rfl) ?_
      refine RQ.gs rfl rfl rfl (fun hp => (PV.move (v := v31) rfl rfl)) ?_
      refine RQ.gs rfl rfl rfl (fun hp => (PV.mvI (.inl rfl) rfl)) ?_
      refine RQ.gs rfl rfl rfl (fun hp => (PV.idxS (v := v31) rfl Is26 (gs_t hp) SlF.o (gs_t hp) rfl (by first | omega | (simp at hp; omega)))) ?_
      refine RQ.gs rfl rfl rfl (fun hp => (PV.loadE1 rfl Sc2 (gs_t hp) rfl (El.o (getG (by first | omega | (simp at hp; omega)))) rfl)) ?_
      refine RQ.gs rfl rfl rfl (fun hp => (PV.move (v := v31) rfl rfl)) ?_
      refine RQ.gs rfl rfl rfl (fun hp => (PV.mvI (.inl rfl) rfl)) ?_
      refine RQ.gs rfl rfl rfl (fun hp => (PV.idxS (v := v31) rfl Is26 (gs_t hp) SlF.o (gs_t hp) rfl (by first | omega | (simp at hp; omega)))) ?_
      refine RQ.gs rfl rfl rfl (fun hp => (PV.loadE1 rfl Sc2 (gs_t hp) rfl (El.o (getG (by first | omega | (simp at hp; omega)))) rfl)) ?_
      refine RQ.gs rfl rfl rfl (fun hp => (PV.eql rfl (gs_t hp) (gs_t hp))) ?_
      refine RQ.pv rfl (PV.pickO rfl rfl rfl (fun hq => gs_t (geqF hq))) ?_
      refine RQ.pv rfl (PV.mvB (.inl rfl) rfl) ?_
      refine RQ.gs rfl rfl rfl (fun hp => (PV.move (v := u) rfl rfl)) ?_
      refine RQ.gs rfl rfl rfl (fun hp => (PV.mvI (.inl rfl) rfl)) ?_
      refine RQ.gs rfl rfl rfl (fun hp => (PV.idxS (v := u) rfl Is79 (gs_t hp) (SlF.r h1) (gs_t hp) rfl (by first | omega | (simp at hp; omega)))) ?_
      refine RQ.gs rfl rfl rfl (fun hp => (PV.loadE rfl Ag127 (gs_t hp) rfl (El.r h1 (getG (by first | omega | (simp at hp; omega)))))) ?_
      refine RQ.gs rfl rfl rfl (fun hp => (PV.move (v := u) rfl rfl)) ?_
      refine RQ.gs rfl rfl rfl (fun hp => (PV.mvI (.inl rfl) rfl)) ?_
      refine RQ.gs rfl rfl rfl (fun hp => (PV.idxS (v := u) rfl Is79 (gs_t hp) (SlF.r h1) (gs_t hp) rfl (by first | omega | (simp at hp; omega)))) ?_
      refine RQ.gs rfl rfl rfl (fun hp => (PV.loadE rfl Ag127 (gs_t hp) rfl (El.r h1 (getG (by first | omega | (simp at hp; omega)))))) ?_
      refine RQ.gs rfl rfl rfl (fun hp => (PV.move (v := v16) rfl rfl)) ?_
      refine RQ.gs rfl rfl rfl (fun hp => (PV.move (v := v20) rfl rfl)) ?_
      refine RQ.gsC rfl rfl rfl rfl En87 (fun hp => ⟨_, (acons (gs_t hp) (acons (gs_t hp) (acons (gs_t hp) (acons (gs_t hp) anil)))), l23Joined_s (hcr n (by omega)).up (hcr i (by omega)).up Rs.o Rs.o (hc6 n (by omega)) (hc6 i (by omega)) (bits_length _) (bits_length _) ⟨rfl, rfl, rfl⟩⟩) ?_
      refine RQ.gs rfl rfl rfl (fun hp => (PV.not rfl (gs_t hp))) ?_
      refine RQ.pv rfl (PV.pickO rfl rfl rfl (fun hq => gs_t (geqF hq))) ?_
      refine RQ.nil ?_
      refine WP.cond rfl (fun h7 => ?_) (fun h7 => ?_)
      · have hs : gd c n = gd c i ∨ JL (er xs) n i = false := by
          rw [hJe n (by omega)]; revert h7
          cases decide ((gd cs n).layer = (gd cs i).layer) <;> cases jnR (erC (gd cs n)) (erC (gd cs i)) (bits (gd xs 2).xs) (bits (gd xs 4).xs) <;> simp
        refine WP.exit ?_
        refine WP.region ?_
        refine RG.pv rfl (PV.mvI (.inl rfl) rfl) ?_
        refine RG.pv rfl (PV.add rfl rfl rfl (by omega)) ?_
        refine RG.pv rfl (PV.mvI (.inr rfl) rfl) ?_
        refine RG.nil ?_
        exact ⟨rfl, n + 1, (by omega), ⟨rfl, trivial⟩, ⟨rfl, rfl, rfl, rfl, rfl, trivial⟩, (Cv.eqS (by rw [hsc, stepJ_same hs])), by omega⟩
      · have hs : ¬ (gd c n = gd c i ∨ JL (er xs) n i = false) := by
          rw [hJe n (by omega)]; revert h7
          cases decide ((gd cs n).layer = (gd cs i).layer) <;> cases jnR (erC (gd cs n)) (erC (gd cs i)) (bits (gd xs 2).xs) (bits (gd xs 4).xs) <;> simp
        refine WP.skip ?_
        refine WP.seq ?_
        refine WP.regionQ (by kernel_rfl) (by kernel_rfl) ?_
        refine RQ.pv rfl (PV.move (v := v31) rfl rfl) ?_
        refine RQ.pv rfl (PV.mvI (.inl rfl) rfl) ?_
        refine RQ.pv rfl (PV.idxS (v := v31) rfl Is26 rfl SlF.o rfl rfl (by omega)) ?_
        refine RQ.pv rfl (PV.loadE1 rfl Sc2 rfl rfl (El.o (getG (by omega))) rfl) ?_
        refine RQ.pv rfl (PV.move (v := v31) rfl rfl) ?_
        refine RQ.pv rfl (PV.mvI (.inl rfl) rfl) ?_
        refine RQ.pv rfl (PV.idxS (v := v31) rfl Is26 rfl SlF.o rfl rfl (by omega)) ?_
        refine RQ.pv rfl (PV.loadE1 rfl Sc2 rfl rfl (El.o (getG (by omega))) rfl) ?_
        refine RQ.pv rfl (PV.min2 rfl rfl rfl) ?_
        refine RQ.pv rfl (PV.move (v := v31) rfl rfl) ?_
        refine RQ.pv rfl (PV.mvI (.inl rfl) rfl) ?_
        refine RQ.pv rfl (PV.idxS (v := v31) rfl Is26 rfl SlF.o rfl rfl (by omega)) ?_
        refine RQ.pv rfl (PV.loadE1 rfl Sc2 rfl rfl (El.o (getG (by omega))) rfl) ?_
        refine RQ.pv rfl (PV.move (v := v31) rfl rfl) ?_
        refine RQ.pv rfl (PV.mvI (.inl rfl) rfl) ?_
        refine RQ.pv rfl (PV.idxS (v := v31) rfl Is26 rfl SlF.o rfl rfl (by omega)) ?_
        refine RQ.pv rfl (PV.loadE1 rfl Sc2 rfl rfl (El.o (getG (by omega))) rfl) ?_
        refine RQ.pv rfl (PV.max2 rfl rfl rfl) ?_
        refine RQ.pv rfl (PV.mvI (.inr rfl) rfl) ?_
        refine RQ.pv rfl (PV.mvI (.inr rfl) rfl) ?_
        refine RQ.nil ?_
        refine WP.seq ?_
        refine WP.region ?_
        refine RG.pv rfl (PV.mvI (.inr rfl) rfl) ?_
        refine RG.nil ?_
        refine WP.block ?_
        refine WP.cv (Cv.eqS (mapTo_zero (rl (min (gd c n) (gd c i)) (max (gd c n) (gd c i))) c).symm) ?_
        generalize hlo : min (gd c n) (gd c i) = lo at *
        generalize hhi : max (gd c n) (gd c i) = hi2 at *
        refine WP.loop1 [0, 5, 6, 7, 8, 9, 10, 11] (fun m => m ≤ i + 1) (fun m => [(12, vi m)]) (fun m => osl 2 intT v31 (mapTo (rl lo hi2) c m) :: osl 4 boolT v16 (bits (gd xs 2).xs) :: osl 4 boolT v20 (bits (gd xs 4).xs) :: L) (fun m => i + 1 - m) 0 (by omega) ⟨rfl, trivial⟩ Cv.p ?_
        rintro m τ2 hm
        refine WP.seq ?_
        refine WP.seq ?_
        refine WP.region ?_
        refine RG.pv rfl (PV.mvI (.inl rfl) rfl) ?_
        refine RG.pv rfl (PV.mvI (.inl rfl) rfl) ?_
        refine RG.pv rfl (PV.leq rfl rfl rfl) ?_
        refine RG.nil ?_
        have hml := mapTo_len (rl lo hi2) c (m := m) (by omega)
        refine WP.cond rfl (fun h8 => ?_) (fun h8 => ?_)
        · have h8 := of_decide_eq_true h8
          have hmg := mapTo_gd (f := rl lo hi2) (d := c) (m := m) (by omega)
          refine WP.skip ?_
          refine WP.seq ?_
          refine WP.block ?_
          refine WP.seq ?_
          refine WP.region ?_
          refine RG.pv rfl (PV.move (v := v31) rfl rfl) ?_
          refine RG.pv rfl (PV.mvI (.inl rfl) rfl) ?_
          refine RG.pv rfl (PV.idxS (v := v31) rfl Is26 rfl SlF.o rfl rfl (by omega)) ?_
          refine RG.pv rfl (PV.loadE1 rfl Sc2 rfl rfl (El.o (getG (by omega))) rfl) ?_
          refine RG.pv rfl (PV.mvI (.inl rfl) rfl) ?_
          refine RG.pv rfl (PV.eql rfl rfl rfl) ?_
          refine RG.nil ?_
          refine WP.cond rfl (fun h9 => ?_) (fun h9 => ?_)
          · refine WP.region ?_
            refine RG.pv rfl (PV.move (v := v31) rfl rfl) ?_
            refine RG.pv rfl (PV.mvI (.inl rfl) rfl) ?_
            refine RG.pv rfl (PV.mvI (.inl rfl) rfl) ?_
            refine RG.pv rfl (PV.idxS (v := v31) rfl Is26 rfl SlF.o rfl rfl (by omega)) ?_
            refine RG.ot rfl (OT.storeE (F := intT) rfl Sz2 rfl rfl rfl (Cl.c rfl) (OneC.c rfl) (by omega) ?_)
            refine RG.nil ?_
            refine WP.region ?_
            refine RG.pv rfl (PV.mvI (.inl rfl) rfl) ?_
            refine RG.pv rfl (PV.add rfl rfl rfl (by omega)) ?_
            refine RG.pv rfl (PV.mvI (.inr rfl) rfl) ?_
            refine RG.nil ?_
            exact ⟨rfl, m + 1, (by omega), ⟨rfl, trivial⟩, ⟨rfl, rfl, rfl, rfl, rfl, rfl, rfl, rfl, trivial⟩, (Cv.eqS (by rw [← mapTo_set (by omega), rl, if_pos (by rw [hmg] at h9; simpa using h9)])), by omega⟩
          · refine WP.skip ?_
            refine WP.region ?_
            refine RG.pv rfl (PV.mvI (.inl rfl) rfl) ?_
            refine RG.pv rfl (PV.add rfl rfl rfl (by omega)) ?_
            refine RG.pv rfl (PV.mvI (.inr rfl) rfl) ?_
            refine RG.nil ?_
            exact ⟨rfl, m + 1, (by omega), ⟨rfl, trivial⟩, ⟨rfl, rfl, rfl, rfl, rfl, rfl, rfl, rfl, trivial⟩, (Cv.eqS (by rw [mapTo_skip (by omega)]; rw [rl, if_neg (by rw [hmg] at h9; simpa using h9)])), by omega⟩
        · have h8 := of_decide_eq_false h8
          obtain rfl : m = i + 1 := by omega
          refine WP.exit ?_
          refine WP.region ?_
          refine RG.pv rfl (PV.mvI (.inl rfl) rfl) ?_
          refine RG.pv rfl (PV.add rfl rfl rfl (by omega)) ?_
          refine RG.pv rfl (PV.mvI (.inr rfl) rfl) ?_
          refine RG.nil ?_
          exact ⟨rfl, n + 1, (by omega), ⟨rfl, trivial⟩, ⟨rfl, rfl, rfl, rfl, rfl, trivial⟩, (Cv.eqS (by rw [hsc, stepJ_map hs, hlo, hhi, ← hil2]; simpa using mapTo_all (f := rl lo hi2) (c := c) (z := []))), by omega⟩
    · have h5 := of_decide_eq_false h5
      obtain rfl : n = i := by omega
      refine WP.exit ?_
      refine WP.region ?_
      refine RG.pv rfl (PV.mvI (.inl rfl) rfl) ?_
      refine RG.pv rfl (PV.add rfl rfl rfl (by omega)) ?_
      refine RG.pv rfl (PV.mvI (.inr rfl) rfl) ?_
      refine RG.nil ?_
      exact ⟨rfl, n + 1, v31, (by omega), ⟨rfl, rfl, trivial⟩, ⟨rfl, rfl, rfl, trivial⟩, (Cv.eqS (by rw [rootsJ, hceq])), by omega⟩
  · have h3 := of_decide_eq_false h3
    obtain rfl : i = cs.length := by omega
    refine WP.exit ?_
    refine WP.seq ?_
    refine WP.region ?_
    refine RG.pv rfl (PV.move (v := q) rfl rfl) ?_
    refine RG.pv rfl (PV.asg (v := q) rfl rfl) ?_
    refine RG.nil ?_
    refine WP.ret ?_
    exact ⟨_, _, ResV.one rfl rfl, ((Cv.eqS (ys := clsL (er xs)) (by rw [hcl]; rfl)).trans Cv.p), k q⟩
theorem numbers_at {cls : List Int} {n : Nat} (h : n < cls.length) (hr : Rt cls) : 0 ≤ gd cls n ∧ gd cls n ≤ n := ⟨(hr n h).1, (hr n h).2.1⟩
def nums (cls : List Int) : List Int := (List.range cls.length).map fun i => (numR cls i : Int)
def numsTo (cls : List Int) (n : Nat) : List Int := (List.range n).map fun i => (numR cls i : Int)
theorem numsTo_succ (cls : List Int) (n : Nat) : numsTo cls (n + 1) = numsTo cls n ++ [(numR cls n : Int)] := by simp [numsTo, List.range_succ]
theorem numsTo_len (cls : List Int) (n : Nat) : (numsTo cls n).length = n := by simp [numsTo]
theorem numsTo_gd {cls : List Int} {n i : Nat} (h : i < n) : gd (numsTo cls n) i = (numR cls i : Int) := by
  rw [numsTo, gd_map _ (by simpa using h)]; simp [gd, h]
theorem l23Numbers_s {v : Value} {cls : List Int} (h1 : Rs G L intT v cls) (hr : Rt cls) (hl : cls.length ≤ 25600) (k : ∀ v', R (.tuple #[v', vi (cntR cls cls.length)]) G (osl 2 intT v' (nums cls) :: L)) : CallT Tryz.prog 48 #[v] G L R := by
  refine CallT.enter (args := _) Tryz.func48 rfl rfl (by kernel_rfl) rfl ?_
  refine WP.seq ?_
  refine WP.region ?_
  refine RG.pv rfl (PV.asg rfl rfl) ?_
  refine RG.pv rfl (PV.mvI (.inr rfl) rfl) ?_
  refine RG.nil ?_
  refine WP.seq ?_
  refine WP.region ?_
  refine RG.ot rfl (OT.bslice (F := intT) (els := []) rfl El26 rfl (by decide) rfl (by decide) trivial fun v7 => ?_)
  refine RG.pv rfl (PV.asg (v := v7) rfl rfl) ?_
  refine RG.nil ?_
  refine WP.seq ?_
  refine WP.region ?_
  refine RG.pv rfl (PV.mvI (.inr rfl) rfl) ?_
  refine RG.nil ?_
  refine WP.seq ?_
  refine WP.seq ?_
  refine WP.region ?_
  refine RG.pv rfl (PV.mvI (.inr rfl) rfl) ?_
  refine RG.nil ?_
  refine WP.block ?_
  refine WP.cv (Cv.eqS (show [] = numsTo cls 0 from rfl)) ?_
  refine WP.loop3 [0] (fun (i : Nat) (m : Int) (q : Value) => i ≤ cls.length ∧ m = cntR cls i) (fun (i : Nat) (m : Int) (q : Value) => [(6, vi i), (5, vi m), (4, q)]) (fun (i : Nat) (m : Int) (q : Value) => osl 2 intT q (numsTo cls i) :: L) (fun (i : Nat) (m : Int) (q : Value) => cls.length - i) 0 0 v7 ⟨by omega, rfl⟩ ⟨rfl, rfl, rfl, trivial⟩ Cv.p ?_
  rintro i m q τ ⟨hi, hm⟩
  refine WP.seq ?_
  refine WP.seq ?_
  refine WP.region ?_
  refine RG.pv rfl (PV.mvI (.inl rfl) rfl) ?_
  refine RG.pv rfl (PV.move (v := v) rfl rfl) ?_
  refine RG.pv rfl (PV.len (v := v) rfl Tryz.underlying26 rfl (SlF.r h1)) ?_
  refine RG.pv rfl (PV.lss rfl rfl rfl) ?_
  refine RG.nil ?_
  have hnl := numsTo_len cls i
  have hcm := cntR_le cls i
  refine WP.cond rfl (fun h3 => ?_) (fun h3 => ?_)
  · have h3 := of_decide_eq_true h3
    have h4 : i < cls.length := by omega
    have hc1 := cntR_succ cls i
    obtain ⟨g1, g2⟩ := numbers_at h4 hr
    refine WP.skip ?_
    refine WP.seq ?_
    refine WP.block ?_
    refine WP.seq ?_
    refine WP.region ?_
    refine RG.pv rfl (PV.move (v := v) rfl rfl) ?_
    refine RG.pv rfl (PV.mvI (.inl rfl) rfl) ?_
    refine RG.pv rfl (PV.idxS (v := v) rfl Is26 rfl (SlF.r h1) rfl rfl (by omega)) ?_
    refine RG.pv rfl (PV.loadE1 rfl Sc2 rfl rfl (El.r h1 (getG (by omega))) rfl) ?_
    refine RG.pv rfl (PV.mvI (.inl rfl) rfl) ?_
    refine RG.pv rfl (PV.eql rfl rfl rfl) ?_
    refine RG.nil ?_
    refine WP.cond rfl (fun h5 => ?_) (fun h5 => ?_)
    · have h5 : gd cls i = (i : Int) := by simpa using h5
      rw [if_pos h5] at hc1
      refine WP.seq ?_
      refine WP.region ?_
      refine RG.pv rfl (PV.move (v := q) rfl rfl) ?_
      refine RG.pv rfl (PV.mvI (.inl rfl) rfl) ?_
      refine RG.ot rfl (OT.bslice (F := intT) (els := [_]) rfl El26 rfl (by decide) rfl (by decide) ⟨rfl, (Cl.c rfl), trivial⟩ fun v22 => ?_)
      refine RG.ot rfl (OT.append (v := q) (u := v22) (F := intT) rfl El26 rfl (by decide) rfl rfl Rs.o (OneL.c (fun _ => rfl)) rfl (by first | omega | (simp <;> omega)) fun v23 => ?_)
      refine RG.pv rfl (PV.asg (v := v23) rfl rfl) ?_
      refine RG.nil ?_
      refine WP.region ?_
      refine RG.pv rfl (PV.mvI (.inl rfl) rfl) ?_
      refine RG.pv rfl (PV.add rfl rfl rfl (by omega)) ?_
      refine RG.pv rfl (PV.mvI (.inr rfl) rfl) ?_
      refine RG.nil ?_
      refine WP.region ?_
      refine RG.pv rfl (PV.mvI (.inl rfl) rfl) ?_
      refine RG.pv rfl (PV.add rfl rfl rfl (by omega)) ?_
      refine RG.pv rfl (PV.mvI (.inr rfl) rfl) ?_
      refine RG.nil ?_
      exact ⟨rfl, i + 1, _, v23, ⟨by omega, by omega⟩, ⟨rfl, rfl, rfl, trivial⟩, ⟨rfl, trivial⟩, ((Cv.eqS (ys := numsTo cls (i + 1)) (by rw [numsTo_succ, numR_root h5, hm])).trans Cv.p), by omega⟩
    · have h5 : gd cls i ≠ (i : Int) := by simpa using h5
      rw [if_neg h5] at hc1
      have hng : gd (numsTo cls i) (gd cls i).toNat = (numR cls i : Int) := by rw [numsTo_gd (by omega), numR_at hr h4]
      refine WP.region ?_
      refine RG.pv rfl (PV.move (v := q) rfl rfl) ?_
      refine RG.pv rfl (PV.move (v := q) rfl rfl) ?_
      refine RG.pv rfl (PV.move (v := v) rfl rfl) ?_
      refine RG.pv rfl (PV.mvI (.inl rfl) rfl) ?_
      refine RG.pv rfl (PV.idxS (v := v) rfl Is26 rfl (SlF.r h1) rfl rfl (by omega)) ?_
      refine RG.pv rfl (PV.loadE1 rfl Sc2 rfl rfl (El.r h1 (getG (by omega))) rfl) ?_
      refine RG.pv rfl (PV.idxS (j := (gd cls i).toNat) (v := q) rfl Is26 rfl SlF.o rfl (by omega) (by omega)) ?_
      refine RG.pv rfl (PV.loadE1 rfl Sc2 rfl rfl (El.o (getG (by omega))) rfl) ?_
      refine RG.ot rfl (OT.bslice (F := intT) (els := [_]) rfl El26 rfl (by decide) rfl (by decide) ⟨rfl, (Cl.c rfl), trivial⟩ fun v34 => ?_)
      refine RG.ot rfl (OT.append (v := q) (u := v34) (F := intT) rfl El26 rfl (by decide) rfl rfl Rs.o (OneL.c (fun _ => rfl)) rfl (by first | omega | (simp <;> omega)) fun v35 => ?_)
      refine RG.pv rfl (PV.asg (v := v35) rfl rfl) ?_
      refine RG.nil ?_
      refine WP.region ?_
      refine RG.pv rfl (PV.mvI (.inl rfl) rfl) ?_
      refine RG.pv rfl (PV.add rfl rfl rfl (by omega)) ?_
      refine RG.pv rfl (PV.mvI (.inr rfl) rfl) ?_
      refine RG.nil ?_
      exact ⟨rfl, i + 1, _, v35, ⟨by omega, by omega⟩, ⟨rfl, rfl, rfl, trivial⟩, ⟨rfl, trivial⟩, ((Cv.eqS (ys := numsTo cls (i + 1)) (by rw [numsTo_succ, hng])).trans Cv.p), by omega⟩
  · have h3 := of_decide_eq_false h3
    obtain rfl : i = cls.length := by omega
    rw [← hm] at k
    refine WP.exit ?_
    refine WP.seq ?_
    refine WP.region ?_
    refine RG.pv rfl (PV.move (v := q) rfl rfl) ?_
    refine RG.pv rfl (PV.mvI (.inl rfl) rfl) ?_
    refine RG.pv rfl (PV.asg (v := q) rfl rfl) ?_
    refine RG.pv rfl (PV.mvI (.inr rfl) rfl) ?_
    refine RG.nil ?_
    refine WP.ret ?_
    exact ⟨_, _, ResV.two rfl rfl rfl, (Cv.eqS (ys := nums cls) rfl), k q⟩
end Go.Proofs.YtmomfgfmnpblpaaGreat
namespace Go.Proofs.YtmomfgfmnpblpaaGreat
set_option linter.unusedVariables false
set_option linter.unusedSimpArgs false
open Go
set_option maxRecDepth 20000
set_option linter.unusedSimpArgs false
variable {G : Gh} {L : List Ch} {R : Value → Gh → List Ch → Prop}
theorem jnI_er (l : List (List Rect)) (p q : Piece) : jnI l (erP p) (erP q) = bif decide (q.layer < p.layer) then jnO l (erP q) (erP p) else jnO l (erP p) (erP q) := rfl
theorem jnO_er (l : List (List Rect)) (p q : Piece) : jnO l (erP p) (erP q) = bif decide (q.layer = 3) && decide (p.layer < 3) then meetIn p.reg.xs q.reg.xs (gd l 2) else decide (p.layer = 3) && decide (q.layer = 5) && meetIn p.reg.xs q.reg.xs (gd l 4) := rfl
theorem joined_s {v : Value} {xs : List (Sl Rect)} {p q : Piece} (h1 : Rs G L slT v xs) (hd : RsE G L rectT xs) (h8 : xs.length = 8) (hp : Rs G L rectT p.reg.v p.reg.xs) (hq : Rs G L rectT q.reg.v q.reg.xs) (k : R (.bool (jnI (er xs) (erP p) (erP q))) G L) : CallT Tryz.prog 145 #[v, vT pieceT p, vT pieceT q] G L R := by
  refine CallT.enter (args := _) Tryz.func145 rfl rfl (by kernel_rfl) rfl ?_
  refine WP.seq ?_
  refine WP.region ?_
  refine RG.ot rfl (OT.box (cs := pieceT.enc p) rfl rfl rfl fun b4 => ?_)
  refine RG.ot rfl (OT.box (cs := pieceT.enc q) rfl rfl rfl fun b5 => ?_)
  refine RG.pv rfl (PV.mvB (.inr rfl) rfl) ?_
  refine RG.nil ?_
  refine WP.cut1 [0, 4, 5] (fun (pq : Piece × Piece) => Rs G L rectT pq.1.reg.v pq.1.reg.xs ∧ Rs G L rectT pq.2.reg.v pq.2.reg.xs ∧ jnI (er xs) (erP p) (erP q) = jnO (er xs) (erP pq.1) (erP pq.2)) (fun (pq : Piece × Piece) => []) (fun (pq : Piece × Piece) => blk b4 143 (pieceT.enc pq.1) :: blk b5 143 (pieceT.enc pq.2) :: L) ?_ ?_
  refine WP.seq ?_
  refine WP.region ?_
  refine RG.pv rfl (PV.field rfl Fo143_0 rfl) ?_
  refine RG.pv rfl (PV.load1 rfl Sc2 rfl (Rd.blk rfl)) ?_
  refine RG.pv rfl (PV.field rfl Fo143_0 rfl) ?_
  refine RG.pv rfl (PV.load1 rfl Sc2 rfl (Rd.blk rfl)) ?_
  refine RG.pv rfl (PV.gtr rfl rfl rfl) ?_
  refine RG.nil ?_
  · refine WP.cond rfl (fun h2 => ?_) (fun h2 => ?_)
    · refine WP.region ?_
      refine RG.pv rfl (PV.loadW rfl Ag143 rfl rfl) ?_
      refine RG.pv rfl (PV.loadW rfl Ag143 rfl rfl) ?_
      refine RG.ot rfl (OT.storeW (vs := [vi _, _]) rfl Sz143 rfl rfl (Cl.c rfl) rfl rfl (OneC.val rfl (OneC.sl (SlF.r hq) OneC.nil)) ?_)
      refine RG.ot rfl (OT.storeW (vs := [vi _, _]) rfl Sz143 rfl rfl (Cl.c rfl) rfl rfl (OneC.val rfl (OneC.sl (SlF.r hp) OneC.nil)) ?_)
      refine RG.nil ?_
      exact ⟨rfl, (q, p), ⟨hq, hp, by rw [jnI_er, h2]; rfl⟩, trivial, ⟨rfl, rfl, rfl, trivial⟩, Cv.p⟩
    · refine WP.skip ?_
      exact ⟨rfl, (p, q), ⟨hp, hq, by rw [jnI_er, h2]; rfl⟩, trivial, ⟨rfl, rfl, rfl, trivial⟩, Cv.p⟩
  rintro pq τ0 ⟨hp', hq', hk⟩
  refine WP.seq ?_
  refine WP.seq ?_
  refine WP.region ?_
  refine RG.pv rfl (PV.field rfl Fo143_0 rfl) ?_
  refine RG.pv rfl (PV.load1 rfl Sc2 rfl (Rd.blk rfl)) ?_
  refine RG.pv rfl (PV.eql rfl rfl rfl) ?_
  refine RG.pv rfl (PV.mvB (.inl rfl) rfl) ?_
  refine RG.gs rfl rfl rfl (fun hp => (PV.field rfl Fo143_0 rfl)) ?_
  refine RG.gs rfl rfl rfl (fun hp => (PV.load1 rfl Sc2 (gs_t hp) (Rd.blk rfl))) ?_
  refine RG.gs rfl rfl rfl (fun hp => (PV.lss rfl (gs_t hp) rfl)) ?_
  refine RG.pv rfl (PV.pickA rfl rfl (fun hq => gs_t (geqT hq)) rfl) ?_
  refine RG.nil ?_
  rw [hk, jnO_er] at k
  refine WP.cond rfl (fun h3 => ?_) (fun h3 => ?_)
  · rw [h3] at k
    simp only [cond_true, er_gd] at k
    refine WP.seq ?_
    refine WP.regionQ (by kernel_rfl) (by kernel_rfl) ?_
    refine RQ.pv rfl (PV.field rfl Fo143_1 rfl) ?_
    refine RQ.pv rfl (PV.load1 rfl Sc56 rfl (Rd.blk rfl)) ?_
    refine RQ.pv rfl (PV.field rfl Fo143_1 rfl) ?_
    refine RQ.pv rfl (PV.load1 rfl Sc56 rfl (Rd.blk rfl)) ?_
    refine RQ.pv rfl (PV.move (v := v) rfl rfl) ?_
    refine RQ.pv rfl (PV.idxS (j := 2) (v := v) rfl Is29 rfl (SlF.r h1) rfl (by omega) (by omega)) ?_
    refine RQ.pv rfl (PV.loadE1 rfl Sc56 rfl rfl (El.r h1 (getG (by omega))) rfl) ?_
    refine RQ.callF (vs := [_, _, _]) rfl rfl En190 rfl (meetIn_s (Rs.up hp') (Rs.up hq') (Rs.up (hd 2 (by omega))) ⟨rfl, rfl, rfl⟩) ?_
    refine RQ.pv rfl (PV.mvB (.inr rfl) rfl) ?_
    refine RQ.nil ?_
    refine WP.ret ?_
    exact ⟨_, _, ResV.one rfl rfl, Cv.p, k⟩
  · rw [h3] at k
    simp only [cond_false, er_gd] at k
    refine WP.skip ?_
    refine WP.seq ?_
    refine WP.regionQ (by kernel_rfl) (by kernel_rfl) ?_
    refine RQ.pv rfl (PV.field rfl Fo143_0 rfl) ?_
    refine RQ.pv rfl (PV.load1 rfl Sc2 rfl (Rd.blk rfl)) ?_
    refine RQ.pv rfl (PV.eql rfl rfl rfl) ?_
    refine RQ.pv rfl (PV.mvB (.inl rfl) rfl) ?_
    refine RQ.gs rfl rfl rfl (fun hp => (PV.field rfl Fo143_0 rfl)) ?_
    refine RQ.gs rfl rfl rfl (fun hp => (PV.load1 rfl Sc2 (gs_t hp) (Rd.blk rfl))) ?_
    refine RQ.gs rfl rfl rfl (fun hp => (PV.eql rfl (gs_t hp) rfl)) ?_
    refine RQ.pv rfl (PV.pickA rfl rfl (fun hq => gs_t (geqT hq)) rfl) ?_
    refine RQ.pv rfl (PV.mvB (.inl rfl) rfl) ?_
    refine RQ.gs rfl rfl rfl (fun hp => (PV.field rfl Fo143_1 rfl)) ?_
    refine RQ.gs rfl rfl rfl (fun hp => (PV.load1 rfl Sc56 (gs_t hp) (Rd.blk rfl))) ?_
    refine RQ.gs rfl rfl rfl (fun hp => (PV.field rfl Fo143_1 rfl)) ?_
    refine RQ.gs rfl rfl rfl (fun hp => (PV.load1 rfl Sc56 (gs_t hp) (Rd.blk rfl))) ?_
    refine RQ.gs rfl rfl rfl (fun hp => (PV.move (v := v) rfl rfl)) ?_
    refine RQ.gs rfl rfl rfl (fun hp => (PV.idxS (j := 4) (v := v) rfl Is29 (gs_t hp) (SlF.r h1) rfl (by first | omega | (simp at hp; omega)) (by first | omega | (simp at hp; omega)))) ?_
    refine RQ.gs rfl rfl rfl (fun hp => (PV.loadE1 rfl Sc56 (gs_t hp) rfl (El.r h1 (getG (by first | omega | (simp at hp; omega)))) rfl)) ?_
    refine RQ.gsC rfl rfl rfl rfl En190 (fun hp => ⟨_, (acons (gs_t hp) (acons (gs_t hp) (acons (gs_t hp) anil))), meetIn_s (Rs.up hp') (Rs.up hq') (Rs.up (hd 4 (by omega))) ⟨rfl, rfl, rfl⟩⟩) ?_
    refine RQ.pv rfl (PV.pickA rfl rfl (fun hq => gs_t (geqT hq)) rfl) ?_
    refine RQ.pv rfl (PV.mvB (.inr rfl) rfl) ?_
    refine RQ.nil ?_
    refine WP.ret ?_
    exact ⟨_, _, ResV.one rfl rfl, Cv.p, k⟩
def nps (zs : List Net) : List (Sl Piece) := zs.map Net.pieces
theorem nps_len (zs : List Net) : (nps zs).length = zs.length := by simp [nps]
theorem nps_gd {zs : List Net} {i : Nat} (h : i < zs.length) : gd (nps zs) i = (gd zs i).pieces := gd_map _ h
theorem nps_append (xs ys : List Net) : nps (xs ++ ys) = nps xs ++ nps ys := by simp [nps]
theorem nps_set (zs : List Net) (i : Nat) (p : Net) : nps (zs.set i p) = (nps zs).set i p.pieces := by simp [nps, List.map_set]
theorem er_set {α : Type} (zs : List (Sl α)) (i : Nat) (s : Sl α) : er (zs.set i s) = (er zs).set i s.xs := by simp [er, List.map_set]
theorem er_append {α : Type} (xs ys : List (Sl α)) : er (xs ++ ys) = er xs ++ er ys := by simp [er]
/-- a net's pieces, out of the bag and written, go back -/
theorem Cv.slotN {e e' : TypeId} {v u : Value} {zs : List Net} {ys : List Piece} {L : List Ch} (i : Nat) (hi : i < zs.length) :
    Cv (osl e pieceT u ys :: osl e' netT v (zs.set i ⟨⟨u, ys⟩⟩) :: bag (((nps zs).map (ownS e pieceT)).set i emp) :: L) (osl e' netT v (zs.set i ⟨⟨u, ys⟩⟩) :: bagS e pieceT (nps (zs.set i ⟨⟨u, ys⟩⟩)) :: L) := by
  have h1 : Cv (osl e pieceT u ys :: osl e' netT v (zs.set i ⟨⟨u, ys⟩⟩) :: bag (((nps zs).map (ownS e pieceT)).set i emp) :: L) (osl e' netT v (zs.set i ⟨⟨u, ys⟩⟩) :: osl e pieceT u ys :: bag (((nps zs).map (ownS e pieceT)).set i emp) :: L) := Cv.swap (A := [osl e pieceT u ys]) (B := [osl e' netT v (zs.set i ⟨⟨u, ys⟩⟩)])
  refine h1.trans ((Cv.cons (Cv.bagS_put i (by rw [nps_len]; exact hi))).trans ?_)
  rw [nps_set]; exact Cv.refl _
/-- a bag in another order -/
theorem sep_perm {A B : List Ch} (h : A.Perm B) : ∀ hp, Sep A hp → Sep B hp := by
  induction h with
  | nil => exact fun _ h => h
  | cons x _ ih => exact fun hp ⟨h1, h2, d, l1, l2, c, s⟩ => ⟨h1, h2, d, l1, l2, c, ih h2 s⟩
  | swap x y l => exact Cv.swap (A := [y]) (B := [x]) (L := l)
  | trans _ _ ih1 ih2 => exact fun hp s => ih2 hp (ih1 hp s)
theorem Cv.bagPerm {α : Type} {e : TypeId} {F : FT α} {xs ys : List (Sl α)} {L : List Ch} (h : xs.Perm ys) : Cv (bagS e F xs :: L) (bagS e F ys :: L) :=
  Cv.imp fun hp s => sep_perm (h.map (ownS e F)) hp s
theorem erPs_pcL {l : List (List Rect)} {ps : List Piece} (h : erPs ps = (pcL l 4).map pcR) : ps.length = (pcL l 4).length ∧ ∀ i, i < ps.length → erP (gd ps i) = pcR (gd (pcL l 4) i) := by
  have hl : ps.length = (pcL l 4).length := by have := congrArg List.length h; rwa [erPs_len, List.length_map] at this
  exact ⟨hl, fun i hi => by rw [← erPs_gd hi, h, gd_map _ (by omega)]⟩
theorem pieces_b {v : Value} {xs : List (Sl Rect)} (h1 : Rs G L slT v xs) (hd : RsE G L rectT xs) (hlay : isLay (er xs) = true) (k : ∀ v' ps, erPs ps = (pcL (er xs) 4).map pcR → ps.length ≤ 25600 → R v' G (osl 143 pieceT v' ps :: bagS 61 rectT (regs ps) :: L)) : CallT Tryz.prog 144 #[v] G L R :=
  pieces_s h1 hd hlay fun v' ps h => k v' ps h (by have := pcL_len (er xs) 4; have := (erPs_pcL h).1; omega)
theorem set_mid {c : List Int} {n : Nat} {x : Int} (h : c.length < n) : (c ++ List.replicate (n - c.length) 0).set c.length x = c ++ [x] ++ List.replicate (n - (c.length + 1)) 0 := by
  rw [List.set_append_right _ _ (Nat.le_refl _), Nat.sub_self, show n - c.length = (n - (c.length + 1)) + 1 by omega, List.replicate_succ, List.set_cons_zero, List.append_assoc]
  simp
theorem rl_zero {lo hi : Int} {n : Nat} (h : hi ≠ 0) : (List.replicate n (0 : Int)).map (rl lo hi) = List.replicate n 0 := by
  rw [List.map_replicate, rl, if_neg (Ne.symm h)]
theorem netsOf_s {v : Value} {xs : List (Sl Rect)} (h1 : Rs G L slT v xs) (hd : RsE G L rectT xs) (hlay : isLay (er xs) = true) (k : ∀ v' zs, (er (nps zs)).map erPs = netL (er xs) → R v' G (osl 140 netT v' zs :: bagS 143 pieceT (nps zs) :: bagS 61 rectT (regs (er (nps zs)).flatten) :: L)) : CallT Tryz.prog 97 #[v] G L R := by
  have h8 : xs.length = 8 := by have := isLay_len hlay; rwa [er_len] at this
  refine CallT.enter (args := _) Tryz.func97 rfl rfl (by kernel_rfl) rfl ?_
  refine WP.seq ?_
  refine WP.region ?_
  refine RG.pv rfl (PV.asg rfl rfl) ?_
  refine RG.nil ?_
  refine WP.seq ?_
  refine WP.region ?_
  refine RG.pv rfl (PV.move (v := v) rfl rfl) ?_
  refine RG.callF (vs := [v]) rfl rfl En144 rfl (pieces_b (Rs.up h1) hd.up hlay (fun v16 psv16 hev16 hlv16 => ?_))
  refine RG.pv rfl (PV.asg (v := v16) rfl rfl) ?_
  refine RG.nil ?_
  refine WP.seq ?_
  refine WP.region ?_
  refine RG.pv rfl (PV.move (v := v16) rfl rfl) ?_
  refine RG.pv rfl (PV.len (v := v16) rfl Tryz.underlying138 rfl SlF.o) ?_
  refine RG.ot rfl (OT.make (F := intT) (a0 := 0) rfl El183 rfl (by decide) rfl rfl (by omega) (by omega) fun v19 => ?_)
  refine RG.pv rfl (PV.asg (v := v19) rfl rfl) ?_
  refine RG.nil ?_
  refine WP.seq ?_
  refine WP.seq ?_
  refine WP.region ?_
  refine RG.pv rfl (PV.move (v := v19) rfl rfl) ?_
  refine RG.pv rfl (PV.len (v := v19) rfl Tryz.underlying183 rfl SlF.o) ?_
  refine RG.pv rfl (PV.mvI (.inl rfl) rfl) ?_
  refine RG.nil ?_
  refine WP.block ?_
  obtain ⟨hpl, hpe⟩ := erPs_pcL hev16
  have hpl2 := pcL_len (er xs) 4
  have hJe : ∀ n i, n < psv16.length → i < psv16.length → jnI (er xs) (erP (gd psv16 n)) (erP (gd psv16 i)) = JL (er xs) n i := fun n i hn hi => by
    rw [hpe n hn, hpe i hi]
    exact jn_eq hlay (pcL_gd_isL (by omega)) (pcL_gd_isL (by omega)) (pcL_gd_len (by omega)) (pcL_gd_len (by omega))
  have hlr : (List.replicate psv16.length (0 : Int)).length = psv16.length := List.length_replicate
  have hcr : ∀ i, i < psv16.length → Rs G (osl 143 pieceT v16 psv16 :: bagS 61 rectT (regs psv16) :: L) rectT (gd psv16 i).reg.v (gd psv16 i).reg.xs := fun i hi => by
    have := Rs.inBag (G := G) (L := osl 143 pieceT v16 psv16 :: bagS 61 rectT (regs psv16) :: L) (e := 61) (F := rectT) (xs := regs psv16) i (by rw [regs_len]; exact hi)
    rwa [regs_gd hi] at this
  refine WP.cv (Cv.eqS (show List.replicate psv16.length 0 = rootsJ (JL (er xs)) 0 ++ List.replicate (psv16.length - 0) 0 from rfl)) ?_
  refine WP.loop1 [0, 3, 4, 21] (fun i => i ≤ psv16.length) (fun i => [(22, vi i)]) (fun i => osl 3 intT v19 (rootsJ (JL (er xs)) i ++ List.replicate (psv16.length - i) 0) :: osl 143 pieceT v16 psv16 :: bagS 61 rectT (regs psv16) :: L) (fun i => psv16.length - i) 0 (by omega) ⟨rfl, trivial⟩ Cv.p ?_
  rintro i τ hi
  refine WP.seq ?_
  refine WP.region ?_
  refine RG.pv rfl (PV.lss rfl rfl rfl) ?_
  refine RG.nil ?_
  refine WP.seq ?_
  have hrl := rootsJ_len (JL (er xs)) i
  have hal : (rootsJ (JL (er xs)) i ++ List.replicate (psv16.length - i) (0 : Int)).length = psv16.length := by simp [hrl]; omega
  refine WP.cond rfl (fun h3 => ?_) (fun h3 => ?_)
  · have h3 := of_decide_eq_true h3
    have h4 : i < psv16.length := by omega
    have hsm := set_mid (c := rootsJ (JL (er xs)) i) (n := psv16.length) (x := (i : Int)) (by omega)
    rw [hrl] at hsm
    refine WP.skip ?_
    refine WP.seq ?_
    refine WP.block ?_
    refine WP.seq ?_
    refine WP.region ?_
    refine RG.pv rfl (PV.mvI (.inl rfl) rfl) ?_
    refine RG.pv rfl (PV.mvI (.inr rfl) rfl) ?_
    refine RG.nil ?_
    refine WP.seq ?_
    refine WP.region ?_
    refine RG.pv rfl (PV.move (v := v19) rfl rfl) ?_
    refine RG.pv rfl (PV.mvI (.inl rfl) rfl) ?_
    refine RG.pv rfl (PV.mvI (.inl rfl) rfl) ?_
    refine RG.pv rfl (PV.idxS (v := v19) rfl Is183 rfl SlF.o rfl rfl (by omega)) ?_
    refine RG.ot rfl (OT.storeE (F := intT) rfl Sz3 rfl rfl rfl (Cl.c rfl) (OneC.c rfl) (by omega) ?_)
    refine RG.nil ?_
    refine WP.seq ?_
    refine WP.region ?_
    refine RG.pv rfl (PV.mvI (.inl rfl) rfl) ?_
    refine RG.pv rfl (PV.mvI (.inl rfl) rfl) ?_
    refine RG.nil ?_
    refine WP.block ?_
    refine WP.cv (Cv.eqS (hsm.trans (by rw [← inJ_zero (JL (er xs))]))) ?_
    refine WP.loop1 [0, 3, 4, 5, 21, 22, 29] (fun n => n ≤ i) (fun n => [(30, vi n)]) (fun n => osl 3 intT v19 (inJ (JL (er xs)) i (rootsJ (JL (er xs)) i) n ++ List.replicate (psv16.length - (i + 1)) 0) :: osl 143 pieceT v16 psv16 :: bagS 61 rectT (regs psv16) :: L) (fun n => i - n) 0 (by omega) ⟨rfl, trivial⟩ Cv.p ?_
    rintro n τ1 hn
    refine WP.seq ?_
    refine WP.region ?_
    refine RG.pv rfl (PV.lss rfl rfl rfl) ?_
    refine RG.nil ?_
    refine WP.seq ?_
    have hil := inJ_len (JL (er xs)) i (rootsJ (JL (er xs)) i) n
    have hil2 : (inJ (JL (er xs)) i (rootsJ (JL (er xs)) i) n).length = i + 1 := by omega
    have hin := fun j hj => inJ_le (J := JL (er xs)) (i := i) (k := n) (j := j) hn hj
    have hsc := inJ_succ (JL (er xs)) i (rootsJ (JL (er xs)) i) n
    generalize hceq : inJ (JL (er xs)) i (rootsJ (JL (er xs)) i) n = c at *
    have hal2 : (c ++ List.replicate (psv16.length - (i + 1)) (0 : Int)).length = psv16.length := by simp [hil2]; omega
    refine WP.cond rfl (fun h5 => ?_) (fun h5 => ?_)
    · have h5 := of_decide_eq_true h5
      have h6 : n < i := by omega
      have hgn : gd (c ++ List.replicate (psv16.length - (i + 1)) (0 : Int)) n = gd c n := gd_app_l (by omega)
      have hgi : gd (c ++ List.replicate (psv16.length - (i + 1)) (0 : Int)) i = gd c i := gd_app_l (by omega)
      have hin1 := hin n (by omega)
      have hin2 := hin i (by omega)
      have hJn := hJe n i (by omega) h4
      refine WP.skip ?_
      refine WP.seq ?_
      refine WP.block ?_
      refine WP.seq ?_
      refine WP.region ?_
      refine RG.pv rfl (PV.mvI (.inl rfl) rfl) ?_
      refine RG.pv rfl (PV.mvI (.inr rfl) rfl) ?_
      refine RG.nil ?_
      refine WP.seq ?_
      refine WP.seq ?_
      refine WP.regionQ (by kernel_rfl) (by kernel_rfl) ?_
      refine RQ.pv rfl (PV.move (v := v19) rfl rfl) ?_
      refine RQ.pv rfl (PV.mvI (.inl rfl) rfl) ?_
      refine RQ.pv rfl (PV.idxS (v := v19) rfl Is183 rfl SlF.o rfl rfl (by omega)) ?_
      refine RQ.pv rfl (PV.loadE1 rfl Sc3 rfl rfl (El.o (getG (by omega))) rfl) ?_
      refine RQ.pv rfl (PV.move (v := v19) rfl rfl) ?_
      refine RQ.pv rfl (PV.mvI (.inl rfl) rfl) ?_
      refine RQ.pv rfl (PV.idxS (v := v19) rfl Is183 rfl SlF.o rfl rfl (by omega)) ?_
      refine RQ.pv rfl (PV.loadE1 rfl Sc3 rfl rfl (El.o (getG (by omega))) rfl) ?_
      refine RQ.pv rfl (PV.eql rfl rfl rfl) ?_
      refine RQ.pv rfl (PV.mvB (.inl rfl) rfl) ?_
      refine RQ.gs rfl rfl rfl (fun hp => (PV.move (v := v) rfl rfl)) ?_
      refine RQ.gs rfl rfl rfl (fun hp => (PV.move (v := v16) rfl rfl)) ?_
      refine RQ.gs rfl rfl rfl (fun hp => (PV.mvI (.inl rfl) rfl)) ?_
      refine RQ.gs rfl rfl rfl (fun hp => (PV.idxS (v := v16) rfl Is138 (gs_t hp) SlF.o (gs_t hp) rfl (by first | omega | (simp at hp; omega)))) ?_
      refine RQ.gs rfl rfl rfl (fun hp => (PV.loadE rfl Ag143 (gs_t hp) rfl (El.o (getG (by first | omega | (simp at hp; omega)))))) ?_
      refine RQ.gs rfl rfl rfl (fun hp => (PV.move (v := v16) rfl rfl)) ?_
      refine RQ.gs rfl rfl rfl (fun hp => (PV.mvI (.inl rfl) rfl)) ?_
      refine RQ.gs rfl rfl rfl (fun hp => (PV.idxS (v := v16) rfl Is138 (gs_t hp) SlF.o (gs_t hp) rfl (by first | omega | (simp at hp; omega)))) ?_
      refine RQ.gs rfl rfl rfl (fun hp => (PV.loadE rfl Ag143 (gs_t hp) rfl (El.o (getG (by first | omega | (simp at hp; omega)))))) ?_
      refine RQ.gsC rfl rfl rfl rfl En145 (fun hp => ⟨_, (acons (gs_t hp) (acons (gs_t hp) (acons (gs_t hp) anil))), joined_s (Rs.up h1) hd.up h8 (hcr n (by omega)).up (hcr i (by omega)).up ⟨rfl, rfl, rfl⟩⟩) ?_
      refine RQ.gs rfl rfl rfl (fun hp => (PV.not rfl (gs_t hp))) ?_
      refine RQ.pv rfl (PV.pickO rfl rfl rfl (fun hq => gs_t (geqF hq))) ?_
      refine RQ.nil ?_
      refine WP.cond rfl (fun h7 => ?_) (fun h7 => ?_)
      · have hs : gd c n = gd c i ∨ JL (er xs) n i = false := by
          rw [hgn, hgi, hJn] at h7; revert h7
          cases JL (er xs) n i <;> simp
        refine WP.exit ?_
        refine WP.region ?_
        refine RG.pv rfl (PV.add rfl rfl rfl (by omega)) ?_
        refine RG.pv rfl (PV.mvI (.inl rfl) rfl) ?_
        refine RG.nil ?_
        exact ⟨rfl, n + 1, (by omega), ⟨rfl, trivial⟩, ⟨rfl, rfl, rfl, rfl, rfl, rfl, rfl, trivial⟩, (Cv.eqS (by rw [hsc, stepJ_same hs])), by omega⟩
      · have hs : ¬ (gd c n = gd c i ∨ JL (er xs) n i = false) := by
          rw [hgn, hgi, hJn] at h7; revert h7
          cases JL (er xs) n i <;> simp
        have hhi0 : max (gd c n) (gd c i) ≠ 0 := by rw [not_or] at hs; omega
        refine WP.skip ?_
        refine WP.seq ?_
        refine WP.regionQ (by kernel_rfl) (by kernel_rfl) ?_
        refine RQ.pv rfl (PV.move (v := v19) rfl rfl) ?_
        refine RQ.pv rfl (PV.mvI (.inl rfl) rfl) ?_
        refine RQ.pv rfl (PV.idxS (v := v19) rfl Is183 rfl SlF.o rfl rfl (by omega)) ?_
        refine RQ.pv rfl (PV.loadE1 rfl Sc3 rfl rfl (El.o (getG (by omega))) rfl) ?_
        refine RQ.pv rfl (PV.move (v := v19) rfl rfl) ?_
        refine RQ.pv rfl (PV.mvI (.inl rfl) rfl) ?_
        refine RQ.pv rfl (PV.idxS (v := v19) rfl Is183 rfl SlF.o rfl rfl (by omega)) ?_
        refine RQ.pv rfl (PV.loadE1 rfl Sc3 rfl rfl (El.o (getG (by omega))) rfl) ?_
        refine RQ.pv rfl (PV.min2 rfl rfl rfl) ?_
        refine RQ.pv rfl (PV.move (v := v19) rfl rfl) ?_
        refine RQ.pv rfl (PV.mvI (.inl rfl) rfl) ?_
        refine RQ.pv rfl (PV.idxS (v := v19) rfl Is183 rfl SlF.o rfl rfl (by omega)) ?_
        refine RQ.pv rfl (PV.loadE1 rfl Sc3 rfl rfl (El.o (getG (by omega))) rfl) ?_
        refine RQ.pv rfl (PV.move (v := v19) rfl rfl) ?_
        refine RQ.pv rfl (PV.mvI (.inl rfl) rfl) ?_
        refine RQ.pv rfl (PV.idxS (v := v19) rfl Is183 rfl SlF.o rfl rfl (by omega)) ?_
        refine RQ.pv rfl (PV.loadE1 rfl Sc3 rfl rfl (El.o (getG (by omega))) rfl) ?_
        refine RQ.pv rfl (PV.max2 rfl rfl rfl) ?_
        refine RQ.pv rfl (PV.mvI (.inr rfl) rfl) ?_
        refine RQ.pv rfl (PV.mvI (.inr rfl) rfl) ?_
        refine RQ.nil ?_
        refine WP.seq ?_
        refine WP.region ?_
        refine RG.pv rfl (PV.mvI (.inl rfl) rfl) ?_
        refine RG.pv rfl (PV.add rfl rfl rfl (by omega)) ?_
        refine RG.pv rfl (PV.mvI (.inl rfl) rfl) ?_
        refine RG.nil ?_
        refine WP.block ?_
        rw [hgn, hgi]
        refine WP.cv (Cv.eqS (mapTo_zero (rl (min (gd c n) (gd c i)) (max (gd c n) (gd c i))) (c ++ List.replicate (psv16.length - (i + 1)) 0)).symm) ?_
        generalize hlo : min (gd c n) (gd c i) = lo at *
        generalize hhi : max (gd c n) (gd c i) = hi2 at *
        refine WP.loop1 [0, 3, 4, 5, 7, 8, 21, 22, 29, 30, 74] (fun m => m ≤ i + 1) (fun m => [(75, vi m)]) (fun m => osl 3 intT v19 (mapTo (rl lo hi2) (c ++ List.replicate (psv16.length - (i + 1)) 0) m) :: osl 143 pieceT v16 psv16 :: bagS 61 rectT (regs psv16) :: L) (fun m => i + 1 - m) 0 (by omega) ⟨rfl, trivial⟩ Cv.p ?_
        rintro m τ2 hm
        refine WP.seq ?_
        refine WP.region ?_
        refine RG.pv rfl (PV.lss rfl rfl rfl) ?_
        refine RG.nil ?_
        refine WP.seq ?_
        have hml := mapTo_len (rl lo hi2) (c ++ List.replicate (psv16.length - (i + 1)) 0) (m := m) (by omega)
        refine WP.cond rfl (fun h8 => ?_) (fun h8 => ?_)
        · have h8 := of_decide_eq_true h8
          have hmg := mapTo_gd (f := rl lo hi2) (d := c ++ List.replicate (psv16.length - (i + 1)) 0) (m := m) (by omega)
          refine WP.skip ?_
          refine WP.seq ?_
          refine WP.block ?_
          refine WP.seq ?_
          refine WP.region ?_
          refine RG.pv rfl (PV.mvI (.inl rfl) rfl) ?_
          refine RG.pv rfl (PV.mvI (.inr rfl) rfl) ?_
          refine RG.nil ?_
          refine WP.seq ?_
          refine WP.region ?_
          refine RG.pv rfl (PV.move (v := v19) rfl rfl) ?_
          refine RG.pv rfl (PV.mvI (.inl rfl) rfl) ?_
          refine RG.pv rfl (PV.idxS (v := v19) rfl Is183 rfl SlF.o rfl rfl (by omega)) ?_
          refine RG.pv rfl (PV.loadE1 rfl Sc3 rfl rfl (El.o (getG (by omega))) rfl) ?_
          refine RG.pv rfl (PV.mvI (.inl rfl) rfl) ?_
          refine RG.pv rfl (PV.eql rfl rfl rfl) ?_
          refine RG.nil ?_
          refine WP.cond rfl (fun h9 => ?_) (fun h9 => ?_)
          · refine WP.region ?_
            refine RG.pv rfl (PV.move (v := v19) rfl rfl) ?_
            refine RG.pv rfl (PV.mvI (.inl rfl) rfl) ?_
            refine RG.pv rfl (PV.mvI (.inl rfl) rfl) ?_
            refine RG.pv rfl (PV.idxS (v := v19) rfl Is183 rfl SlF.o rfl rfl (by omega)) ?_
            refine RG.ot rfl (OT.storeE (F := intT) rfl Sz3 rfl rfl rfl (Cl.c rfl) (OneC.c rfl) (by omega) ?_)
            refine RG.nil ?_
            refine WP.region ?_
            refine RG.pv rfl (PV.add rfl rfl rfl (by omega)) ?_
            refine RG.pv rfl (PV.mvI (.inl rfl) rfl) ?_
            refine RG.nil ?_
            exact ⟨rfl, m + 1, (by omega), ⟨rfl, trivial⟩, ⟨rfl, rfl, rfl, rfl, rfl, rfl, rfl, rfl, rfl, rfl, rfl, trivial⟩, (Cv.eqS (by rw [← mapTo_set (by omega), rl, if_pos (by rw [hmg] at h9; simpa using h9)])), by omega⟩
          · refine WP.skip ?_
            refine WP.region ?_
            refine RG.pv rfl (PV.add rfl rfl rfl (by omega)) ?_
            refine RG.pv rfl (PV.mvI (.inl rfl) rfl) ?_
            refine RG.nil ?_
            exact ⟨rfl, m + 1, (by omega), ⟨rfl, trivial⟩, ⟨rfl, rfl, rfl, rfl, rfl, rfl, rfl, rfl, rfl, rfl, rfl, trivial⟩, (Cv.eqS (by rw [mapTo_skip (by omega)]; rw [rl, if_neg (by rw [hmg] at h9; simpa using h9)])), by omega⟩
        · have h8 := of_decide_eq_false h8
          obtain rfl : m = i + 1 := by omega
          have hma := mapTo_all (f := rl lo hi2) (c := c) (z := List.replicate (psv16.length - (i + 1)) 0)
          rw [hil2] at hma
          refine WP.exit ?_
          refine WP.region ?_
          refine RG.pv rfl (PV.add rfl rfl rfl (by omega)) ?_
          refine RG.pv rfl (PV.mvI (.inl rfl) rfl) ?_
          refine RG.nil ?_
          exact ⟨rfl, n + 1, (by omega), ⟨rfl, trivial⟩, ⟨rfl, rfl, rfl, rfl, rfl, rfl, rfl, trivial⟩, (Cv.eqS (by rw [hma, hsc, stepJ_map hs, hlo, hhi])), by omega⟩
    · have h5 := of_decide_eq_false h5
      obtain rfl : n = i := by omega
      refine WP.exit ?_
      refine WP.region ?_
      refine RG.pv rfl (PV.add rfl rfl rfl (by omega)) ?_
      refine RG.pv rfl (PV.mvI (.inl rfl) rfl) ?_
      refine RG.nil ?_
      exact ⟨rfl, n + 1, (by omega), ⟨rfl, trivial⟩, ⟨rfl, rfl, rfl, rfl, trivial⟩, (Cv.eqS (by rw [rootsJ, hceq])), by omega⟩
  · have h3 := of_decide_eq_false h3
    obtain rfl : i = psv16.length := by omega
    have hcl : rootsJ (JL (er xs)) psv16.length ++ List.replicate (psv16.length - psv16.length) 0 = clsL (er xs) := by rw [Nat.sub_self, List.replicate_zero, List.append_nil, hpl]; rfl
    refine WP.cv (Cv.eqS hcl) ?_
    have hrt := clsL_rt (er xs)
    have hcll := clsL_len (er xs)
    refine WP.exit ?_
    refine WP.cut2 [3, 4] (fun (o pq : Value) => True) (fun (o pq : Value) => [(10, o), (11, pq)]) (fun (o pq : Value) => osl 140 netT o ([] : List Net) :: osl 3 intT pq (List.replicate psv16.length 0) :: osl 3 intT v19 (clsL (er xs)) :: osl 143 pieceT v16 psv16 :: bagS 61 rectT (regs psv16) :: L) ?_ ?_
    refine WP.regionH0 (.q 1 (.q 2 (.b 0 (.q 4 (.l 3 (.q 5 Sch.nil))) 3 (.l 0 (.q 4 (.q 5 Sch.nil)))))) (by kernel_rfl) (by kernel_rfl) (by kernel_rfl) rfl ?_
    refine RH.pv rfl (fun _ _ _ _ h => h) (Gh.le_refl _) PickC.pick rfl (PV.move (v := v16) rfl rfl) ?_
    refine RH.pv rfl (fun _ _ _ _ h => h) (Gh.le_refl _) PickC.pick rfl (PV.len (v := v16) rfl Tryz.underlying138 rfl SlF.o) ?_
    · refine RH.ot2 rfl rfl rfl rfl  (OT.bslice (F := netT) (els := []) rfl El86 rfl (by decide) rfl (by decide) trivial fun v91 => ⟨Gh.le_refl _, PickC.pick, ?_⟩) (OT.make (F := intT) (a0 := 0) rfl El183 rfl (by decide) rfl rfl (by omega) (by omega) fun v94 => ⟨Gh.le_refl _, PickC.pick, ?_⟩)
      · refine RH.pv rfl (fun _ _ _ _ h => h) (Gh.le_refl _) PickC.pick rfl (PV.asg (v := v91) rfl rfl) ?_
        refine RH.ot rfl rfl (OT.make (F := intT) (a0 := 0) rfl El183 rfl (by decide) rfl rfl (by omega) (by omega) fun v94 => ⟨Gh.le_refl _, PickC.pick, ?_⟩)
        refine RH.pv rfl (fun _ _ _ _ h => h) (Gh.le_refl _) PickC.pick rfl (PV.asg (v := v94) rfl rfl) ?_
        refine RH.nil ?_
        exact ⟨rfl, v91, v94, trivial, ⟨rfl, rfl, trivial⟩, ⟨rfl, rfl, trivial⟩, Cv.p⟩
      · refine RH.ot rfl rfl (OT.bslice (F := netT) (els := []) rfl El86 rfl (by decide) rfl (by decide) trivial fun v91 => ⟨Gh.le_refl _, PickC.pick, ?_⟩)
        refine RH.pv rfl (fun _ _ _ _ h => h) (Gh.le_refl _) PickC.pick rfl (PV.asg (v := v91) rfl rfl) ?_
        refine RH.pv rfl (fun _ _ _ _ h => h) (Gh.le_refl _) PickC.pick rfl (PV.asg (v := v94) rfl rfl) ?_
        refine RH.nil ?_
        exact ⟨rfl, v91, v94, trivial, ⟨rfl, rfl, trivial⟩, ⟨rfl, rfl, trivial⟩, Cv.p⟩
    have hpr : ∀ j, j < 0 → gd (clsL (er xs)) j = (j : Int) → gd (List.replicate psv16.length (0 : Int)) j = (cntR (clsL (er xs)) j : Int) := fun j h => by omega
    rintro o pq τ3 _
    refine WP.seq ?_
    refine WP.seq ?_
    refine WP.region ?_
    refine RG.pv rfl (PV.move (v := v16) rfl rfl) ?_
    refine RG.pv rfl (PV.len (v := v16) rfl Tryz.underlying138 rfl SlF.o) ?_
    refine RG.pv rfl (PV.mvI (.inl rfl) rfl) ?_
    refine RG.nil ?_
    refine WP.block ?_
    refine WP.cv ((Cv.cons (Cv.bag0 (e := 143) (F := pieceT) (xs := nps []) rfl))) ?_
    refine WP.loop4 [4, 11, 95, 96] (fun (i : Nat) (zs : List Net) (pl : List Int) (q : Value) => i ≤ psv16.length ∧ er (nps zs) = netsP (clsL (er xs)) psv16 i ∧ pl.length = psv16.length ∧ ∀ j, j < i → gd (clsL (er xs)) j = (j : Int) → gd pl j = (cntR (clsL (er xs)) j : Int)) (fun (i : Nat) (zs : List Net) (pl : List Int) (q : Value) => [(97, vi i), (10, q)]) (fun (i : Nat) (zs : List Net) (pl : List Int) (q : Value) => osl 140 netT q zs :: bagS 143 pieceT (nps zs) :: osl 3 intT pq pl :: osl 3 intT v19 (clsL (er xs)) :: osl 143 pieceT v16 psv16 :: bagS 61 rectT (regs psv16) :: L) (fun (i : Nat) (zs : List Net) (pl : List Int) (q : Value) => psv16.length - i) 0 [] (List.replicate psv16.length 0) o ⟨by omega, rfl, hlr, hpr⟩ ⟨rfl, rfl, trivial⟩ Cv.p ?_
    rintro i zs pl q τ4 ⟨hi2, hzs, hpll, hpl3⟩
    refine WP.seq ?_
    refine WP.region ?_
    refine RG.pv rfl (PV.lss rfl rfl rfl) ?_
    refine RG.nil ?_
    refine WP.seq ?_
    have hcl0 := cntR_le (clsL (er xs)) i
    have hzl : zs.length = cntR (clsL (er xs)) i := by have := congrArg List.length hzs; rwa [er_len, nps_len, netsP_len] at this
    refine WP.cond rfl (fun h10 => ?_) (fun h10 => ?_)
    · have h10 := of_decide_eq_true h10
      have h11 : i < psv16.length := by omega
      have h12 : i < (clsL (er xs)).length := by omega
      obtain ⟨g1, g2⟩ := numbers_at h12 hrt
      have hcs := cntR_succ (clsL (er xs)) i
      refine WP.skip ?_
      refine WP.seq ?_
      refine WP.block ?_
      refine WP.seq ?_
      refine WP.region ?_
      refine RG.pv rfl (PV.mvI (.inl rfl) rfl) ?_
      refine RG.pv rfl (PV.idxS (v := v16) rfl Is138 rfl SlF.o rfl rfl (by omega)) ?_
      refine RG.pv rfl (PV.loadE rfl Ag143 rfl rfl (El.o (getG (by omega)))) ?_
      refine RG.ot rfl (OT.alloc rfl Zr143 fun b13 => ?_)
      refine RG.pv rfl (PV.mvI (.inr rfl) rfl) ?_
      refine RG.ot rfl (OT.storeW (vs := [vi _, _]) rfl Sz143 rfl rfl (Cl.c rfl) rfl rfl (OneC.val rfl (OneC.sl (SlF.r (hcr i h11)) OneC.nil)) ?_)
      refine RG.nil ?_
      refine WP.cut3 [4, 11, 12, 13, 95, 96, 97] (fun (zs2 : List Net) (pl2 : List Int) (q2 : Value) => er (nps zs2) = netsE (clsL (er xs)) psv16 i ∧ pl2.length = psv16.length ∧ ∀ j, j < i + 1 → gd (clsL (er xs)) j = (j : Int) → gd pl2 j = (cntR (clsL (er xs)) j : Int)) (fun (zs2 : List Net) (pl2 : List Int) (q2 : Value) => [(10, q2)]) (fun (zs2 : List Net) (pl2 : List Int) (q2 : Value) => osl 140 netT q2 zs2 :: bagS 143 pieceT (nps zs2) :: osl 3 intT pq pl2 :: osl 3 intT v19 (clsL (er xs)) :: osl 143 pieceT v16 psv16 :: bagS 61 rectT (regs psv16) :: blk b13 143 (pieceT.enc (gd psv16 i)) :: L) ?_ ?_
      refine WP.seq ?_
      refine WP.region ?_
      refine RG.pv rfl (PV.move (v := v19) rfl rfl) ?_
      refine RG.pv rfl (PV.mvI (.inl rfl) rfl) ?_
      refine RG.pv rfl (PV.idxS (v := v19) rfl Is183 rfl SlF.o rfl rfl (by omega)) ?_
      refine RG.pv rfl (PV.loadE1 rfl Sc3 rfl rfl (El.o (getG (by omega))) rfl) ?_
      refine RG.pv rfl (PV.mvI (.inl rfl) rfl) ?_
      refine RG.pv rfl (PV.eql rfl rfl rfl) ?_
      refine RG.nil ?_
      · refine WP.cond rfl (fun h13 => ?_) (fun h13 => ?_)
        · have h13 : gd (clsL (er xs)) i = (i : Int) := by simpa using h13
          refine WP.seq ?_
          refine WP.region ?_
          refine RG.pv rfl (PV.move (v := pq) rfl rfl) ?_
          refine RG.pv rfl (PV.mvI (.inl rfl) rfl) ?_
          refine RG.pv rfl (PV.move (v := q) rfl rfl) ?_
          refine RG.pv rfl (PV.len (v := q) rfl Tryz.underlying86 rfl SlF.o) ?_
          refine RG.pv rfl (PV.idxS (v := pq) rfl Is183 rfl SlF.o rfl rfl (by omega)) ?_
          refine RG.ot rfl (OT.storeE (a := (zs.length : Int)) (F := intT) rfl Sz3 rfl rfl rfl (Cl.c rfl) (OneC.c rfl) (by omega) ?_)
          refine RG.nil ?_
          refine WP.region ?_
          refine RG.pv rfl (PV.move (v := q) rfl rfl) ?_
          refine RG.pv rfl (PV.build (vs := []) (out := [_]) rfl Zr140 Pl140 trivial rfl) ?_
          refine RG.ot rfl (OT.bslice (F := netT) (els := [⟨⟨.slice none 0 0, []⟩⟩]) rfl El86 rfl (by decide) rfl (by decide) ⟨rfl, (Cl.c rfl), trivial⟩ fun v115 => ?_)
          refine RG.ot rfl (OT.append (v := q) (u := v115) (F := netT) rfl El86 rfl (by decide) rfl rfl Rs.o (OneL.one (OneC.c rfl)) rfl (by first | omega | (simp <;> omega)) fun v116 => ?_)
          refine RG.pv rfl (PV.asg (v := v116) rfl rfl) ?_
          refine RG.nil ?_
          refine ⟨rfl, (zs ++ [⟨⟨.slice none 0 0, []⟩⟩]), (pl.set i (zs.length : Int)), v116, ⟨?_, by simpa using hpll, ?_⟩, ⟨rfl, trivial⟩, ⟨rfl, rfl, rfl, rfl, rfl, rfl, rfl, trivial⟩, ((Cv.p (C := osl 140 netT v116 (zs ++ [⟨⟨.slice none 0 0, []⟩⟩]) :: bagS 143 pieceT (nps zs) :: osl 3 intT pq (pl.set i (zs.length : Int)) :: osl 3 intT v19 (clsL (er xs)) :: osl 143 pieceT v16 psv16 :: bagS 61 rectT (regs psv16) :: blk b13 143 (pieceT.enc (gd psv16 i)) :: L)).trans (Cv.cons (Cv.nilS.trans (Cv.grow (by rw [nps_append]; rfl)))))⟩
          · rw [nps_append, er_append, hzs, netsE, if_pos h13]; rfl
          · intro j hj hr
            by_cases c : j = i
            · subst c; simp [gd, hpll, h11, hzl]
            · have := hpl3 j (by omega) hr
              simpa [gd, List.getElem?_set, Ne.symm c] using this
        · have h13 : gd (clsL (er xs)) i ≠ (i : Int) := by simpa using h13
          refine WP.skip ?_
          refine ⟨rfl, zs, pl, q, ⟨by rw [hzs, netsE, if_neg h13], hpll, fun j hj hr => ?_⟩, ⟨rfl, trivial⟩, ⟨rfl, rfl, rfl, rfl, rfl, rfl, rfl, trivial⟩, Cv.p⟩
          by_cases c : j = i
          · subst c; exact absurd hr h13
          · exact hpl3 j (by omega) hr
      rintro zs2 pl2 q2 τ5 ⟨hzs2, hpll2, hpl4⟩
      have hzl2 : zs2.length = cntR (clsL (er xs)) (i + 1) := by have := congrArg List.length hzs2; rwa [er_len, nps_len, netsE_len] at this
      have hnl := numR_lt hrt h12 (Nat.lt_add_one i)
      have hr3 := (hrt i h12).2.2
      have hplg : gd pl2 (gd (clsL (er xs)) i).toNat = (numR (clsL (er xs)) i : Int) := by rw [hpl4 _ (by omega) (by rw [hr3]; omega)]; rfl
      have hme : (gd zs2 (numR (clsL (er xs)) i)).pieces.xs = gd (netsE (clsL (er xs)) psv16 i) (numR (clsL (er xs)) i) := by rw [← hzs2, er_gd, nps_gd (by omega)]
      have hml3 : (gd zs2 (numR (clsL (er xs)) i)).pieces.xs.length ≤ 25600 := by
        rw [hme, netsE_gd hrt h12 hnl, List.length_map]
        have := List.length_filter_le (fun j => decide (numR (clsL (er xs)) j = numR (clsL (er xs)) i)) (List.range i)
        rw [List.length_range] at this; omega
      refine WP.cv ((Cv.cons (Cv.bagS_take (numR (clsL (er xs)) i) (by rw [nps_len]; omega))).trans (Cv.cast (by rw [nps_gd (by omega)]))) ?_
      refine WP.seq ?_
      refine WP.region ?_
      refine RG.pv rfl (PV.move (v := q2) rfl rfl) ?_
      refine RG.pv rfl (PV.move (v := pq) rfl rfl) ?_
      refine RG.pv rfl (PV.move (v := v19) rfl rfl) ?_
      refine RG.pv rfl (PV.mvI (.inl rfl) rfl) ?_
      refine RG.pv rfl (PV.idxS (v := v19) rfl Is183 rfl SlF.o rfl rfl (by omega)) ?_
      refine RG.pv rfl (PV.loadE1 rfl Sc3 rfl rfl (El.o (getG (by omega))) rfl) ?_
      refine RG.pv rfl (PV.idxS (j := (gd (clsL (er xs)) i).toNat) (v := pq) rfl Is183 rfl SlF.o rfl (by omega) (by omega)) ?_
      refine RG.pv rfl (PV.loadE1 rfl Sc3 rfl rfl (El.o (getG (by omega))) rfl) ?_
      refine RG.pv rfl (PV.idxS (j := numR (clsL (er xs)) i) (v := q2) rfl Is86 rfl SlF.o rfl (by omega) (by omega)) ?_
      refine RG.pv rfl (PV.mvP (.inr rfl) rfl) ?_
      refine RG.nil ?_
      refine WP.regionHD [.s q2, .s (gd zs2 (numR (clsL (er xs)) i)).pieces.v] (.q 0 (.q 1 (.q 2 (.q 3 (.q 5 (.b 4 (.l 6 (.l 7 (.q 8 (.q 9 (.l 10 Sch.nil))))) 6 (.l 4 (.l 7 (.q 8 (.q 9 (.l 10 Sch.nil))))))))))) (by kernel_rfl) (by kernel_rfl) (by kernel_rfl) rfl ?_
      refine RH.pv rfl (fun _ _ _ _ h => h) (Gh.le_refl _) PickC.pick rfl (PV.mvP (.inl rfl) rfl) ?_
      refine RH.pv rfl (fun _ _ _ _ h => h) (Gh.le_refl _) PickC.pick rfl (PV.mvP (.inl rfl) rfl) ?_
      refine RH.pv rfl (fun _ _ _ _ h => h) (Gh.le_refl _) PickC.pick rfl (PV.nilc rfl rfl) ?_
      refine RH.pv rfl (fun _ _ _ _ h => h) (Gh.le_refl _) PickC.pick rfl (PV.field rfl Fo140_0 rfl) ?_
      refine RH.pv rfl (fun _ _ _ _ h => h) (Gh.le_refl _) PickC.pick rfl (PV.loadW rfl Ag143 rfl rfl) ?_
      have hfin : er (nps (zs2.set (numR (clsL (er xs)) i) ⟨⟨default, (gd zs2 (numR (clsL (er xs)) i)).pieces.xs ++ [gd psv16 i]⟩⟩)) = netsP (clsL (er xs)) psv16 (i + 1) := by
        rw [nps_set, er_set, hzs2, netsP_succ hrt h12, hme]
      have hfin2 : ∀ w, er (nps (zs2.set (numR (clsL (er xs)) i) ⟨⟨w, (gd zs2 (numR (clsL (er xs)) i)).pieces.xs ++ [gd psv16 i]⟩⟩)) = netsP (clsL (er xs)) psv16 (i + 1) := fun w => by
        rw [← hfin, nps_set, nps_set, er_set, er_set]
      refine RH.ot2 rfl rfl rfl rfl  (OT.pv (PV.loadF (v := q2) (j := 0) rfl Sc138 rfl rfl (El.o (getG (by omega))) rfl) ⟨Gh.le_refl _, PickC.pick, ?_⟩) (OT.bslice (F := pieceT) (els := [⟨(gd psv16 i).layer, (gd psv16 i).reg⟩]) rfl El138 rfl (by decide) rfl (by decide) ⟨rfl, (Cl.c rfl), trivial⟩ fun v132 => ⟨Gh.le_refl _, PickC.pick, ?_⟩)
      · refine RH.ot rfl rfl (OT.bslice (F := pieceT) (els := [⟨(gd psv16 i).layer, (gd psv16 i).reg⟩]) rfl El138 rfl (by decide) rfl (by decide) ⟨rfl, (Cl.c rfl), trivial⟩ fun v132 => ⟨Gh.le_refl _, PickC.pick, ?_⟩)
        refine RH.ot rfl rfl (OT.append (v := (gd zs2 (numR (clsL (er xs)) i)).pieces.v) (u := v132) (F := pieceT) rfl El138 rfl (by decide) rfl rfl Rs.o (OneL.one (OneC.val rfl (OneC.sl (SlF.r (hcr i h11)) OneC.nil))) rfl (by first | omega | (simp <;> omega)) fun v133 => ⟨Gh.le_refl _, PickC.pick, ?_⟩)
        refine RH.pv rfl (fun _ _ _ _ h => h) (Gh.le_refl _) PickC.pick rfl (PV.nilc rfl rfl) ?_
        refine RH.pv rfl (fun _ _ _ _ h => h) (Gh.le_refl _) PickC.pick rfl (PV.field rfl Fo140_0 rfl) ?_
        refine RH.ot rfl rfl (OT.storeF (F := netT) (val := Sl.v) (cv := fun u => [u.v]) (u := ⟨v133, (gd zs2 (numR (clsL (er xs)) i)).pieces.xs ++ [gd psv16 i]⟩) (st := Net.s0) rfl Sz138 rfl rfl rfl (Cl.s (v := v133) SlF.o) rfl (OneC.sl SlF.o OneC.nil) (by exact set_self (by omega)) (by first | omega | (simp; omega)) rfl (fun _ _ => rfl) ⟨Gh.le_refl _, PickC.pick, ?_⟩)
        refine RH.nil ?_
        refine WP.region ?_
        refine RG.pv rfl (PV.add rfl rfl rfl (by first | omega | (simp only [List.length_set]; omega))) ?_
        refine RG.pv rfl (PV.mvI (.inl rfl) rfl) ?_
        refine RG.nil ?_
        exact ⟨rfl, i + 1, (zs2.set (numR (clsL (er xs)) i) ⟨⟨v133, (gd zs2 (numR (clsL (er xs)) i)).pieces.xs ++ [gd psv16 i]⟩⟩), pl2, q2, ⟨by omega, hfin2 _, hpll2, hpl4⟩, ⟨rfl, rfl, trivial⟩, ⟨rfl, rfl, rfl, rfl, trivial⟩, ((Cv.p (C := osl 143 pieceT v133 ((gd zs2 (numR (clsL (er xs)) i)).pieces.xs ++ [gd psv16 i]) :: osl 140 netT q2 (zs2.set (numR (clsL (er xs)) i) ⟨⟨v133, (gd zs2 (numR (clsL (er xs)) i)).pieces.xs ++ [gd psv16 i]⟩⟩) :: bag (((nps zs2).map (ownS 143 pieceT)).set (numR (clsL (er xs)) i) emp) :: osl 3 intT pq pl2 :: osl 3 intT v19 (clsL (er xs)) :: osl 143 pieceT v16 psv16 :: bagS 61 rectT (regs psv16) :: L)).trans (Cv.slotN _ (by omega))), by omega⟩
      · refine RH.ot rfl rfl (OT.pv (PV.loadF (v := q2) (j := 0) rfl Sc138 rfl rfl (El.o (getG (by omega))) rfl) ⟨Gh.le_refl _, PickC.pick, ?_⟩)
        refine RH.ot rfl rfl (OT.append (v := (gd zs2 (numR (clsL (er xs)) i)).pieces.v) (u := v132) (F := pieceT) rfl El138 rfl (by decide) rfl rfl Rs.o (OneL.one (OneC.val rfl (OneC.sl (SlF.r (hcr i h11)) OneC.nil))) rfl (by first | omega | (simp <;> omega)) fun v133 => ⟨Gh.le_refl _, PickC.pick, ?_⟩)
        refine RH.pv rfl (fun _ _ _ _ h => h) (Gh.le_refl _) PickC.pick rfl (PV.nilc rfl rfl) ?_
        refine RH.pv rfl (fun _ _ _ _ h => h) (Gh.le_refl _) PickC.pick rfl (PV.field rfl Fo140_0 rfl) ?_
        refine RH.ot rfl rfl (OT.storeF (F := netT) (val := Sl.v) (cv := fun u => [u.v]) (u := ⟨v133, (gd zs2 (numR (clsL (er xs)) i)).pieces.xs ++ [gd psv16 i]⟩) (st := Net.s0) rfl Sz138 rfl rfl rfl (Cl.s (v := v133) SlF.o) rfl (OneC.sl SlF.o OneC.nil) (by exact set_self (by omega)) (by first | omega | (simp; omega)) rfl (fun _ _ => rfl) ⟨Gh.le_refl _, PickC.pick, ?_⟩)
        refine RH.nil ?_
        refine WP.region ?_
        refine RG.pv rfl (PV.add rfl rfl rfl (by first | omega | (simp only [List.length_set]; omega))) ?_
        refine RG.pv rfl (PV.mvI (.inl rfl) rfl) ?_
        refine RG.nil ?_
        exact ⟨rfl, i + 1, (zs2.set (numR (clsL (er xs)) i) ⟨⟨v133, (gd zs2 (numR (clsL (er xs)) i)).pieces.xs ++ [gd psv16 i]⟩⟩), pl2, q2, ⟨by omega, hfin2 _, hpll2, hpl4⟩, ⟨rfl, rfl, trivial⟩, ⟨rfl, rfl, rfl, rfl, trivial⟩, ((Cv.p (C := osl 143 pieceT v133 ((gd zs2 (numR (clsL (er xs)) i)).pieces.xs ++ [gd psv16 i]) :: osl 140 netT q2 (zs2.set (numR (clsL (er xs)) i) ⟨⟨v133, (gd zs2 (numR (clsL (er xs)) i)).pieces.xs ++ [gd psv16 i]⟩⟩) :: bag (((nps zs2).map (ownS 143 pieceT)).set (numR (clsL (er xs)) i) emp) :: osl 3 intT pq pl2 :: osl 3 intT v19 (clsL (er xs)) :: osl 143 pieceT v16 psv16 :: bagS 61 rectT (regs psv16) :: L)).trans (Cv.slotN _ (by omega))), by omega⟩
    · have h10 := of_decide_eq_false h10
      obtain rfl : i = psv16.length := by omega
      have hpm := netsP_perm hrt psv16 (by omega)
      rw [← hzs] at hpm
      have hfin : (er (nps zs)).map erPs = netL (er xs) := by
        rw [hzs, netL, ← hev16, erPs, ← hpl, netsP_map erP _ _ (Nat.le_refl _)]; rfl
      refine WP.exit ?_
      refine WP.seq ?_
      refine WP.region ?_
      refine RG.pv rfl (PV.move (v := q) rfl rfl) ?_
      refine RG.pv rfl (PV.asg (v := q) rfl rfl) ?_
      refine RG.nil ?_
      refine WP.ret ?_
      exact ⟨_, _, ResV.one rfl rfl, ((Cv.p (C := bagS 61 rectT (regs psv16) :: osl 140 netT q zs :: bagS 143 pieceT (nps zs) :: L)).trans ((Cv.bagPerm (ys := regs (er (nps zs)).flatten) (hpm.symm.map Piece.reg)).trans Cv.p)), k q zs hfin⟩
end Go.Proofs.YtmomfgfmnpblpaaGreat
namespace Go.Proofs.YtmomfgfmnpblpaaGreat
set_option linter.unusedVariables false
set_option linter.unusedSimpArgs false
open Go
set_option linter.unusedSimpArgs false
set_option maxRecDepth 20000
def Apart (p q : Int × List Bool) : Prop := p.1 = q.1 → ∀ y x, y < 80 → x < 80 → gb p.2 y x = true → gb q.2 y x = true → False
theorem comps_apart (S : List Bool) : (comps S).Pairwise fun c d => ∀ y x, y < 80 → x < 80 → gb c y x = true → gb d y x = true → False := by
  classical
  unfold comps
  rw [List.pairwise_map]
  refine List.Pairwise.imp_of_mem (fun {a b} ha hb hab => ?_) (firsts_sorted S 6400)
  intro y x hy hx h1 h2
  have fa : First S a := by simpa using (List.mem_filter.1 ha).2
  have fb : First S b := by simpa using (List.mem_filter.1 hb).2
  have c1 := (comp_iff hy hx).1 h1
  have c2 := (comp_iff hy hx).1 h2
  exact fb.2 a hab fa.1 (c1.trans (c2.symm fb.1))
theorem lay_ne {i n : Nat} (h : i < n) (hn : n < 4) : gd [0, 1, 3, 5] i ≠ (gd [0, 1, 3, 5] n : Int) := by
  rcases (by omega : n = 1 ∨ n = 2 ∨ n = 3) with rfl | rfl | rfl
  · obtain rfl : i = 0 := by omega
    simp [gd]
  · rcases (by omega : i = 0 ∨ i = 1) with rfl | rfl <;> simp [gd]
  · rcases (by omega : i = 0 ∨ i = 1 ∨ i = 2) with rfl | rfl | rfl <;> simp [gd]
theorem pcL_layer {l : List (List Rect)} {n : Nat} {p : Int × List Bool} (h : p ∈ pcL l n) : ∃ i, i < n ∧ p.1 = gd [0, 1, 3, 5] i := by
  obtain ⟨m, h1, h2⟩ := List.mem_flatten.1 h
  obtain ⟨i, hi, rfl⟩ := List.mem_map.1 h1
  obtain ⟨c, hc, rfl⟩ := List.mem_map.1 h2
  exact ⟨i, List.mem_range.1 hi, rfl⟩
theorem pcL_apart (l : List (List Rect)) : ∀ n, n ≤ 4 → (pcL l n).Pairwise Apart
  | 0, _ => by simp [pcL]
  | n + 1, hn => by
    rw [pcL_succ, List.pairwise_append]
    refine ⟨pcL_apart l n (by omega), ?_, ?_⟩
    · rw [List.pairwise_map]
      refine (comps_apart _).imp ?_
      intro a b h _; exact h
    · intro p hp q hq e
      exfalso
      obtain ⟨i, hi, h1⟩ := pcL_layer hp
      obtain ⟨c, hc, rfl⟩ := List.mem_map.1 hq
      exact lay_ne hi (by omega) (h1.symm.trans e)
theorem pcL_uniq {l : List (List Rect)} {i j : Nat} (hi : i < (pcL l 4).length) (hj : j < (pcL l 4).length) (e : (gd (pcL l 4) i).1 = (gd (pcL l 4) j).1) {y x : Nat} (hy : y < 80) (hx : x < 80) (h1 : gb (gd (pcL l 4) i).2 y x = true) (h2 : gb (gd (pcL l 4) j).2 y x = true) : i = j := by
  have hp := List.pairwise_iff_getElem.1 (pcL_apart l 4 (Nat.le_refl _))
  rw [gd_eq hi, gd_eq hj] at e; rw [gd_eq hi] at h1; rw [gd_eq hj] at h2
  rcases Nat.lt_trichotomy i j with c | c | c
  · exact (hp i j hi hj c e y x hy hx h1 h2).elim
  · exact c
  · exact (hp j i hj hi c e.symm y x hy hx h2 h1).elim
def cellB (S : List Bool) (x y : Int) : Bool := (decide (-40 ≤ x ∧ x < 40) && decide (-40 ≤ y ∧ y < 40)) && gd S ((y + 40) * 80 + x + 40).toNat
theorem cellB_in {S : List Bool} {x y : Int} (h : -40 ≤ x ∧ x < 40 ∧ -40 ≤ y ∧ y < 40) : cellB S x y = gb S (y + 40).toNat (x + 40).toNat := by
  have e : ((y + 40) * 80 + x + 40).toNat = (y + 40).toNat * 80 + (x + 40).toNat := by omega
  rw [cellB, decide_eq_true (by omega), decide_eq_true (by omega), e]; rfl
theorem cellB_out {S : List Bool} {x y : Int} (h : ¬ (-40 ≤ x ∧ x < 40 ∧ -40 ≤ y ∧ y < 40)) : cellB S x y = false := by
  rw [cellB]
  by_cases c : -40 ≤ x ∧ x < 40
  · rw [decide_eq_false (p := -40 ≤ y ∧ y < 40) (by omega)]; simp
  · rw [decide_eq_false c]; simp
theorem cellB_true {S : List Bool} {x y : Int} (h : cellB S x y = true) : -40 ≤ x ∧ x < 40 ∧ -40 ≤ y ∧ y < 40 := by
  by_cases c : -40 ≤ x ∧ x < 40 ∧ -40 ≤ y ∧ y < 40
  · exact c
  · rw [cellB_out c] at h; cases h
def rHas (r : Rect) (x y : Int) : Bool := validRect r && decide (r.x0 ≤ x) && decide (x < r.x1) && decide (r.y0 ≤ y) && decide (y < r.y1)
theorem rHas_in {r : Rect} {x y : Int} (hv : validRect r = true) (h : -40 ≤ x ∧ x < 40 ∧ -40 ≤ y ∧ y < 40) : rHas r x y = inR r (y + 40).toNat (x + 40).toNat := by
  rw [Bool.eq_iff_iff, inR_iff]
  simp only [rHas, hv, Bool.true_and, Bool.and_eq_true, decide_eq_true_eq]
  omega
theorem rHas_out {r : Rect} {x y : Int} (h : ¬ (-40 ≤ x ∧ x < 40 ∧ -40 ≤ y ∧ y < 40)) : rHas r x y = false := by
  rw [Bool.eq_false_iff]
  intro k
  simp only [rHas, Bool.and_eq_true, decide_eq_true_eq] at k
  have := validR_iff.1 k.1.1.1.1
  omega
/-- a region has a cell just if its set has it -/
theorem has_canon {c : List Bool} (hc : c.length = 6400) (x y : Int) : ((canon c).any fun r => rHas r x y) = cellB c x y := by
  by_cases h : -40 ≤ x ∧ x < 40 ∧ -40 ≤ y ∧ y < 40
  · rw [cellB_in h, ← bits_canon hc, gb_bits' _ (by omega) (by omega), bits_canon hc]
    have hv := isReg_valid (isReg_canon hc)
    rw [Bool.eq_iff_iff, List.any_eq_true, List.any_eq_true]
    constructor
    · rintro ⟨r, hr, k⟩; exact ⟨r, hr, by rw [← rHas_in (valid_mem hv hr) h]; exact k⟩
    · rintro ⟨r, hr, k⟩; exact ⟨r, hr, by rw [rHas_in (valid_mem hv hr) h]; exact k⟩
  · rw [cellB_out h, List.any_eq_false]
    intro r _; simp [rHas_out h]
theorem has_reg {r : List Rect} (hr : isReg r = true) (x y : Int) : (r.any fun r => rHas r x y) = cellB (bits r) x y := by
  have := has_canon (bits_length r) x y
  rwa [isReg_eq hr] at this
def atB (n x y : Int) (p : Int × List Bool) : Bool := decide (p.1 = n) && cellB p.2 x y
def atR (n x y : Int) (p : Int × List Rect) : Bool := decide (p.1 = n) && p.2.any fun r => rHas r x y
theorem atR_pcR {n x y : Int} {p : Int × List Bool} (h : p.2.length = 6400) : atR n x y (pcR p) = atB n x y p := by
  rw [atR, atB, pcR, has_canon h]
theorem atB_uniq {l : List (List Rect)} {n x y : Int} {i j : Nat} (hi : i < (pcL l 4).length) (hj : j < (pcL l 4).length) (h1 : atB n x y (gd (pcL l 4) i) = true) (h2 : atB n x y (gd (pcL l 4) j) = true) : i = j := by
  simp only [atB, Bool.and_eq_true, decide_eq_true_eq] at h1 h2
  have hr := cellB_true h1.2
  rw [cellB_in hr] at h1 h2
  exact pcL_uniq hi hj (h1.1.trans h2.1.symm) (by omega) (by omega) h1.2 h2.2
/-- the number of the net of the first piece at a place -/
noncomputable def findL (l : List (List Rect)) (n x y : Int) : Int :=
  match (pcL l 4).findIdx? (atB n x y) with
  | some i => numR (clsL l) i
  | none => -1
theorem findL_at {l : List (List Rect)} {n x y : Int} {i : Nat} (hi : i < (pcL l 4).length) (h : atB n x y (gd (pcL l 4) i) = true) : findL l n x y = numR (clsL l) i := by
  have : (pcL l 4).findIdx? (atB n x y) = some i := by
    rw [List.findIdx?_eq_some_iff_getElem]
    refine ⟨hi, by rwa [gd_eq hi] at h, fun j hj hp => ?_⟩
    have := atB_uniq (i := j) (by omega) hi (by rw [gd_eq (by omega)]; exact hp) h
    omega
  rw [findL, this]
theorem findL_none {l : List (List Rect)} {n x y : Int} (h : ∀ i, i < (pcL l 4).length → atB n x y (gd (pcL l 4) i) = false) : findL l n x y = -1 := by
  have : (pcL l 4).findIdx? (atB n x y) = none := by
    rw [List.findIdx?_eq_none_iff]
    intro p hp
    obtain ⟨j, hj, rfl⟩ := List.getElem_of_mem hp
    rw [← gd_eq hj]; exact h j hj
  rw [findL, this]
theorem netL_gd {l : List (List Rect)} {k : Nat} (h : k < netN l) : gd (netL l) k = ((List.range (pcL l 4).length).filter fun j => decide (numR (clsL l) j = k)).map fun j => pcR (gd (pcL l 4) j) := by
  rw [netL, netsP_gd h]
  apply List.map_congr_left
  intro j hj
  have := List.mem_range.1 (List.mem_filter.1 hj).1
  exact gd_map _ this
theorem netAt_eq (l : List (List Rect)) (n x y : Int) : idxI (fun net => net.any (atR n x y)) (netL l) = findL l n x y := by
  have hnet : ∀ k, k < netN l → ((gd (netL l) k).any (atR n x y) = true ↔ ∃ j, j < (pcL l 4).length ∧ numR (clsL l) j = k ∧ atB n x y (gd (pcL l 4) j) = true) := fun k hk => by
    rw [netL_gd hk, List.any_map, List.any_eq_true]
    constructor
    · rintro ⟨j, hj, h⟩
      have h1 := List.mem_range.1 (List.mem_filter.1 hj).1
      have h2 := (List.mem_filter.1 hj).2
      exact ⟨j, h1, by simpa using h2, by rw [← atR_pcR (pcL_mem (n := 4) (l := l) (by rw [gd_eq h1]; exact List.getElem_mem h1))]; exact h⟩
    · rintro ⟨j, h1, h2, h3⟩
      exact ⟨j, List.mem_filter.2 ⟨List.mem_range.2 h1, by simpa using h2⟩, by
        show atR n x y (pcR (gd (pcL l 4) j)) = true
        rw [atR_pcR (pcL_mem (n := 4) (l := l) (by rw [gd_eq h1]; exact List.getElem_mem h1))]; exact h3⟩
  by_cases c : ∃ i, i < (pcL l 4).length ∧ atB n x y (gd (pcL l 4) i) = true
  · obtain ⟨i, hi, h⟩ := c
    have hk := numR_lt (clsL_rt l) (i := i) (m := (pcL l 4).length) (by rw [clsL_len]; exact hi) hi
    rw [findL_at hi h, idxI_at (i := numR (clsL l) i) (by rw [netL_len]; exact hk) ((hnet _ hk).2 ⟨i, hi, rfl, h⟩) fun j hj => ?_]
    cases hb : (gd (netL l) j).any (atR n x y) with
    | false => rfl
    | true =>
      obtain ⟨m, h1, h2, h3⟩ := (hnet j (by have : cntR (clsL l) (pcL l 4).length = netN l := rfl
                                            omega)).1 hb
      have := atB_uniq h1 hi h3 h
      subst this; omega
  · have h : ∀ i, i < (pcL l 4).length → atB n x y (gd (pcL l 4) i) = false := fun i hi => by
      cases hb : atB n x y (gd (pcL l 4) i) with
      | false => rfl
      | true => exact absurd ⟨i, hi, hb⟩ c
    rw [findL_none h]
    exact idxI_none fun k hk => by
      rw [netL_len] at hk
      cases hb : (gd (netL l) k).any (atR n x y) with
      | false => rfl
      | true =>
        obtain ⟨m, h1, h2, h3⟩ := (hnet k hk).1 hb
        rw [h m h1] at h3; cases h3
end Go.Proofs.YtmomfgfmnpblpaaGreat
namespace Go.Proofs.YtmomfgfmnpblpaaGreat
set_option linter.unusedVariables false
set_option linter.unusedSimpArgs false
open Go
set_option maxRecDepth 20000
set_option linter.unusedSimpArgs false
variable {G : Gh} {L : List Ch} {R : Value → Gh → List Ch → Prop}
noncomputable def netE (l : List (List Rect)) : Int := bif isLay l then (if 24 < netN l then 3 else 0) else 1
noncomputable def netR (l : List (List Rect)) : List (List (Int × List Rect)) := if netE l = 0 then netL l else []
theorem netE_ok {l : List (List Rect)} (h : netE l = 0) : isLay l = true ∧ netN l ≤ 24 := by
  unfold netE at h
  cases hl : isLay l
  · rw [hl] at h; cases h
  · rw [hl] at h
    refine ⟨rfl, ?_⟩
    by_cases c : 24 < netN l
    · simp [c] at h
    · omega
theorem nets_i {v : Value} {xs : List (Sl Rect)} (h1 : Rs G L slT v xs) (hd : RsE G L rectT xs) (k : ∀ v' zs, (er (nps zs)).map erPs = netR (er xs) → R (.tuple #[v', vi (netE (er xs))]) G (osl 140 netT v' zs :: bagS 143 pieceT (nps zs) :: bagS 61 rectT (regs (er (nps zs)).flatten) :: L)) : CallT Tryz.prog 55 #[v] G L R := by
  refine CallT.enter (args := _) Tryz.func55 rfl rfl (by kernel_rfl) rfl ?_
  refine WP.seq ?_
  refine WP.region ?_
  refine RG.pv rfl (PV.asg rfl rfl) ?_
  refine RG.pv rfl (PV.mvI (.inr rfl) rfl) ?_
  refine RG.nil ?_
  refine WP.seq ?_
  refine WP.seq ?_
  refine WP.region ?_
  refine RG.pv rfl (PV.move (v := v) rfl rfl) ?_
  refine RG.callF (vs := [v]) rfl rfl En53 rfl (isLayout_s (Rs.up h1) hd.up ?_)
  refine RG.pv rfl (PV.not rfl rfl) ?_
  refine RG.nil ?_
  refine WP.cond rfl (fun h2 => ?_) (fun h2 => ?_)
  · have h3 : isLay (er xs) = false := by simpa using h2
    have e : netE (er xs) = 1 := by rw [netE, h3]; rfl
    have e2 : netR (er xs) = [] := by rw [netR, e]; rfl
    rw [e, e2] at k
    refine WP.seq ?_
    refine WP.region ?_
    refine RG.pv rfl (PV.asg rfl rfl) ?_
    refine RG.pv rfl (PV.mvI (.inr rfl) rfl) ?_
    refine RG.nil ?_
    refine WP.ret ?_
    exact ⟨_, _, ResV.two rfl rfl rfl, (Cv.nilS.trans (Cv.cons ((Cv.bag0 (e := 61) (F := rectT) (xs := regs []) rfl).trans (Cv.bag0 (e := 143) (F := pieceT) (xs := nps []) rfl)))), k _ [] rfl⟩
  · have h3 : isLay (er xs) = true := by simpa using h2
    refine WP.skip ?_
    refine WP.seq ?_
    refine WP.region ?_
    refine RG.pv rfl (PV.move (v := v) rfl rfl) ?_
    refine RG.callF (vs := [v]) rfl rfl En97 rfl (netsOf_s (Rs.up h1) hd.up h3 (fun v9 zsv9 hev9 => ?_))
    refine RG.pv rfl (PV.asg (v := v9) rfl rfl) ?_
    refine RG.nil ?_
    refine WP.seq ?_
    refine WP.seq ?_
    refine WP.region ?_
    refine RG.pv rfl (PV.move (v := v9) rfl rfl) ?_
    refine RG.pv rfl (PV.len (v := v9) rfl Tryz.underlying86 rfl SlF.o) ?_
    refine RG.pv rfl (PV.gtr rfl rfl rfl) ?_
    refine RG.nil ?_
    have hzl : zsv9.length = netN (er xs) := by
      have := congrArg List.length hev9
      rwa [List.length_map, er_len, nps_len, netL_len] at this
    refine WP.cond rfl (fun h4 => ?_) (fun h4 => ?_)
    · have h4 := of_decide_eq_true h4
      have e : netE (er xs) = 3 := by rw [netE, h3, cond_true, if_pos (by omega)]
      have e2 : netR (er xs) = [] := by rw [netR, e]; rfl
      rw [e, e2] at k
      refine WP.seq ?_
      refine WP.region ?_
      refine RG.pv rfl (PV.asg rfl rfl) ?_
      refine RG.pv rfl (PV.mvI (.inr rfl) rfl) ?_
      refine RG.nil ?_
      refine WP.ret ?_
      exact ⟨_, _, ResV.two rfl rfl rfl, ((Cv.p (C := L)).trans (Cv.nilS.trans (Cv.cons ((Cv.bag0 (e := 61) (F := rectT) (xs := regs []) rfl).trans (Cv.bag0 (e := 143) (F := pieceT) (xs := nps []) rfl))))), k _ [] rfl⟩
    · have h4 := of_decide_eq_false h4
      have e : netE (er xs) = 0 := by rw [netE, h3, cond_true, if_neg (by omega)]
      have e2 : netR (er xs) = netL (er xs) := by rw [netR, e]; rfl
      rw [e, e2] at k
      refine WP.skip ?_
      refine WP.seq ?_
      refine WP.region ?_
      refine RG.pv rfl (PV.move (v := v9) rfl rfl) ?_
      refine RG.pv rfl (PV.asg (v := v9) rfl rfl) ?_
      refine RG.pv rfl (PV.mvI (.inr rfl) rfl) ?_
      refine RG.nil ?_
      refine WP.ret ?_
      exact ⟨_, _, ResV.two rfl rfl rfl, Cv.p, k v9 zsv9 hev9⟩
theorem rHas_s {r : Rect} {x y : Int} (k : R (.bool (rHas r x y)) G L) : CallT Tryz.prog 149 #[vrect r, vi x, vi y] G L R := by
  refine CallT.enter (args := _) Tryz.func149 rfl rfl (by kernel_rfl) rfl ?_
  refine WP.seq ?_
  refine WP.region ?_
  refine RG.ot rfl (OT.box (cs := rectT.enc r) rfl rfl rfl fun b3 => ?_)
  refine RG.pv rfl (PV.mvB (.inr rfl) rfl) ?_
  refine RG.nil ?_
  refine WP.seq ?_
  refine WP.region ?_
  refine RG.pv rfl (PV.loadW rfl Ag61 rfl rfl) ?_
  refine RG.callF (vs := [_]) rfl rfl En181 rfl (validRect_s ?_)
  refine RG.pv rfl (PV.mvB (.inl rfl) rfl) ?_
  refine RG.gs rfl rfl rfl (fun hp => (PV.field rfl Fo61_0 rfl)) ?_
  refine RG.gs rfl rfl rfl (fun hp => (PV.load1 rfl Sc2 (gs_t hp) (Rd.blk rfl))) ?_
  refine RG.gs rfl rfl rfl (fun hp => (PV.mvI (.inl rfl) rfl)) ?_
  refine RG.gs rfl rfl rfl (fun hp => (PV.leq rfl (gs_t hp) (gs_t hp))) ?_
  refine RG.pv rfl (PV.pickA rfl rfl (fun hq => gs_t (geqT hq)) rfl) ?_
  refine RG.pv rfl (PV.mvB (.inl rfl) rfl) ?_
  refine RG.gs rfl rfl rfl (fun hp => (PV.mvI (.inl rfl) rfl)) ?_
  refine RG.gs rfl rfl rfl (fun hp => (PV.field rfl Fo61_2 rfl)) ?_
  refine RG.gs rfl rfl rfl (fun hp => (PV.load1 rfl Sc2 (gs_t hp) (Rd.blk rfl))) ?_
  refine RG.gs rfl rfl rfl (fun hp => (PV.lss rfl (gs_t hp) (gs_t hp))) ?_
  refine RG.pv rfl (PV.pickA rfl rfl (fun hq => gs_t (geqT hq)) rfl) ?_
  refine RG.pv rfl (PV.mvB (.inl rfl) rfl) ?_
  refine RG.gs rfl rfl rfl (fun hp => (PV.field rfl Fo61_1 rfl)) ?_
  refine RG.gs rfl rfl rfl (fun hp => (PV.load1 rfl Sc2 (gs_t hp) (Rd.blk rfl))) ?_
  refine RG.gs rfl rfl rfl (fun hp => (PV.mvI (.inl rfl) rfl)) ?_
  refine RG.gs rfl rfl rfl (fun hp => (PV.leq rfl (gs_t hp) (gs_t hp))) ?_
  refine RG.pv rfl (PV.pickA rfl rfl (fun hq => gs_t (geqT hq)) rfl) ?_
  refine RG.pv rfl (PV.mvB (.inl rfl) rfl) ?_
  refine RG.gs rfl rfl rfl (fun hp => (PV.mvI (.inl rfl) rfl)) ?_
  refine RG.gs rfl rfl rfl (fun hp => (PV.field rfl Fo61_3 rfl)) ?_
  refine RG.gs rfl rfl rfl (fun hp => (PV.load1 rfl Sc2 (gs_t hp) (Rd.blk rfl))) ?_
  refine RG.gs rfl rfl rfl (fun hp => (PV.lss rfl (gs_t hp) (gs_t hp))) ?_
  refine RG.pv rfl (PV.pickA rfl rfl (fun hq => gs_t (geqT hq)) rfl) ?_
  refine RG.pv rfl (PV.mvB (.inr rfl) rfl) ?_
  refine RG.nil ?_
  refine WP.ret ?_
  exact ⟨_, _, ResV.one rfl rfl, Cv.p, k⟩
theorem contains1_s {r : Rect} {b : Nat} {p : Pt} (hc : RdN G L b (ptT.enc p)) (k : R (.bool (rHas r p.x p.y)) G L) : CallT Tryz.prog 148 #[vrect r, .pointer (some ⟨b, 0, none⟩)] G L R := by
  refine CallT.enter (args := _) Tryz.func148 rfl rfl (by kernel_rfl) rfl ?_
  refine WP.seq ?_
  refine WP.region ?_
  refine RG.ot rfl (OT.box (cs := rectT.enc r) rfl rfl rfl fun b2 => ?_)
  refine RG.pv rfl (PV.mvB (.inr rfl) rfl) ?_
  refine RG.nil ?_
  refine WP.seq ?_
  refine WP.region ?_
  refine RG.pv rfl (PV.loadW rfl Ag61 rfl rfl) ?_
  refine RG.pv rfl (PV.field rfl Fo49_0 rfl) ?_
  refine RG.pv rfl (PV.load1 rfl Sc2 rfl ((RdN.up hc) 0 _ rfl)) ?_
  refine RG.pv rfl (PV.field rfl Fo49_1 rfl) ?_
  refine RG.pv rfl (PV.load1 rfl Sc2 rfl ((RdN.up hc) 1 _ rfl)) ?_
  refine RG.callF (vs := [_, _, _]) rfl rfl En149 rfl (rHas_s ?_)
  refine RG.pv rfl (PV.mvB (.inr rfl) rfl) ?_
  refine RG.nil ?_
  refine WP.ret ?_
  exact ⟨_, _, ResV.one rfl rfl, Cv.p, k⟩
theorem indexF_rect {v fv : Value} {xs : List (Rect)} {p : (Rect) → Bool} (h1 : Rs G L rectT v xs) (hf : ∀ i, i < xs.length → CB Tryz.prog G L fv [vrect (gd xs i)] (.bool (p (gd xs i)))) (k : R (vi (idxI p xs)) G L) : CallT Tryz.prog 191 #[v, fv] G L R := by
  refine CallT.bd h1 fun hb => ?_
  refine CallT.enter (args := _) Tryz.func191 rfl rfl (by kernel_rfl) rfl ?_
  refine WP.seq ?_
  refine WP.region ?_
  refine RG.pv rfl (PV.mvI (.inr rfl) rfl) ?_
  refine RG.nil ?_
  refine WP.seq ?_
  refine WP.seq ?_
  refine WP.region ?_
  refine RG.pv rfl (PV.move (v := v) rfl rfl) ?_
  refine RG.pv rfl (PV.len (v := v) rfl Tryz.underlying56 rfl (SlF.r h1)) ?_
  refine RG.pv rfl (PV.mvI (.inl rfl) rfl) ?_
  refine RG.nil ?_
  refine WP.block ?_
  refine WP.loop1 [0, 1, 7] (fun i => i ≤ xs.length ∧ ∀ j, j < i → p (gd xs j) = false) (fun i => [(8, vi i)]) (fun i => L) (fun i => xs.length - i) 0 ⟨by omega, fun j h => by omega⟩ ⟨rfl, trivial⟩ Cv.p ?_
  rintro i τ ⟨hi, hj⟩
  refine WP.seq ?_
  refine WP.region ?_
  refine RG.pv rfl (PV.lss rfl rfl rfl) ?_
  refine RG.nil ?_
  refine WP.seq ?_
  refine WP.cond rfl (fun h2 => ?_) (fun h2 => ?_)
  · have h2 := of_decide_eq_true h2
    refine WP.skip ?_
    refine WP.seq ?_
    refine WP.block ?_
    refine WP.seq ?_
    refine WP.region ?_
    refine RG.pv rfl (PV.mvI (.inl rfl) rfl) ?_
    refine RG.pv rfl (PV.mvI (.inr rfl) rfl) ?_
    refine RG.nil ?_
    refine WP.seq ?_
    refine WP.region ?_
    refine RG.pv rfl (PV.move (v := fv) rfl rfl) ?_
    refine RG.pv rfl (PV.move (v := v) rfl rfl) ?_
    refine RG.pv rfl (PV.mvI (.inl rfl) rfl) ?_
    refine RG.pv rfl (PV.idxS (v := v) rfl Is56 rfl (SlF.r h1) rfl rfl (by omega)) ?_
    refine RG.pv rfl (PV.loadE rfl Ag61 rfl rfl (El.r h1 (getG (by omega)))) ?_
    refine RG.callB (vs := [_]) rfl rfl rfl rfl (CB.up (hf i (by omega))) ?_
    refine RG.nil ?_
    refine WP.cond rfl (fun h3 => ?_) (fun h3 => ?_)
    · rw [idxI_at (by omega) h3 hj] at k
      refine WP.seq ?_
      refine WP.region ?_
      refine RG.pv rfl (PV.mvI (.inl rfl) rfl) ?_
      refine RG.pv rfl (PV.mvI (.inr rfl) rfl) ?_
      refine RG.nil ?_
      refine WP.ret ?_
      exact ⟨_, _, ResV.one rfl rfl, Cv.p, k⟩
    · have hj' : ∀ j, j < i + 1 → p (gd xs j) = false := fun j h => by
        by_cases c : j = i
        · rw [c]; exact h3
        · exact hj j (by omega)
      refine WP.skip ?_
      refine WP.region ?_
      refine RG.pv rfl (PV.add rfl rfl rfl (by omega)) ?_
      refine RG.pv rfl (PV.mvI (.inl rfl) rfl) ?_
      refine RG.nil ?_
      exact ⟨rfl, i + 1, ⟨by omega, hj'⟩, ⟨rfl, trivial⟩, ⟨rfl, rfl, rfl, trivial⟩, Cv.p, by omega⟩
  · have h2 := of_decide_eq_false h2
    rw [idxI_none (fun j h => hj j (by omega))] at k
    refine WP.exit ?_
    refine WP.seq ?_
    refine WP.region ?_
    refine RG.pv rfl (PV.mvI (.inr rfl) rfl) ?_
    refine RG.nil ?_
    refine WP.ret ?_
    exact ⟨_, _, ResV.one rfl rfl, Cv.p, k⟩
theorem containsF_rect {v fv : Value} {xs : List (Rect)} {p : (Rect) → Bool} (h1 : Rs G L rectT v xs) (hf : ∀ i, i < xs.length → CB Tryz.prog G L fv [vrect (gd xs i)] (.bool (p (gd xs i)))) (k : R (.bool (xs.any p)) G L) : CallT Tryz.prog 147 #[v, fv] G L R := by
  rw [← idxI_any] at k
  refine CallT.enter (args := _) Tryz.func147 rfl rfl (by kernel_rfl) rfl ?_
  refine WP.seq ?_
  refine WP.region ?_
  refine RG.pv rfl (PV.mvB (.inr rfl) rfl) ?_
  refine RG.nil ?_
  refine WP.seq ?_
  refine WP.region ?_
  refine RG.pv rfl (PV.move (v := v) rfl rfl) ?_
  refine RG.pv rfl (PV.move (v := fv) rfl rfl) ?_
  refine RG.callF (vs := [v, fv]) rfl rfl En191 rfl (indexF_rect (Rs.up h1) (fun i hi => (hf i hi).up) ?_)
  refine RG.pv rfl (PV.geq rfl rfl rfl) ?_
  refine RG.pv rfl (PV.mvB (.inr rfl) rfl) ?_
  refine RG.nil ?_
  refine WP.ret ?_
  exact ⟨_, _, ResV.one rfl rfl, Cv.p, k⟩
theorem indexF_piece {v fv : Value} {xs : List (Piece)} {p : (Piece) → Bool} (h1 : Rs G L pieceT v xs) (hf : ∀ i, i < xs.length → CB Tryz.prog G L fv [vT pieceT (gd xs i)] (.bool (p (gd xs i)))) (k : R (vi (idxI p xs)) G L) : CallT Tryz.prog 146 #[v, fv] G L R := by
  refine CallT.bd h1 fun hb => ?_
  refine CallT.enter (args := _) Tryz.func146 rfl rfl (by kernel_rfl) rfl ?_
  refine WP.seq ?_
  refine WP.region ?_
  refine RG.pv rfl (PV.mvI (.inr rfl) rfl) ?_
  refine RG.nil ?_
  refine WP.seq ?_
  refine WP.seq ?_
  refine WP.region ?_
  refine RG.pv rfl (PV.move (v := v) rfl rfl) ?_
  refine RG.pv rfl (PV.len (v := v) rfl Tryz.underlying138 rfl (SlF.r h1)) ?_
  refine RG.pv rfl (PV.mvI (.inl rfl) rfl) ?_
  refine RG.nil ?_
  refine WP.block ?_
  refine WP.loop1 [0, 1, 7] (fun i => i ≤ xs.length ∧ ∀ j, j < i → p (gd xs j) = false) (fun i => [(8, vi i)]) (fun i => L) (fun i => xs.length - i) 0 ⟨by omega, fun j h => by omega⟩ ⟨rfl, trivial⟩ Cv.p ?_
  rintro i τ ⟨hi, hj⟩
  refine WP.seq ?_
  refine WP.region ?_
  refine RG.pv rfl (PV.lss rfl rfl rfl) ?_
  refine RG.nil ?_
  refine WP.seq ?_
  refine WP.cond rfl (fun h2 => ?_) (fun h2 => ?_)
  · have h2 := of_decide_eq_true h2
    refine WP.skip ?_
    refine WP.seq ?_
    refine WP.block ?_
    refine WP.seq ?_
    refine WP.region ?_
    refine RG.pv rfl (PV.mvI (.inl rfl) rfl) ?_
    refine RG.pv rfl (PV.mvI (.inr rfl) rfl) ?_
    refine RG.nil ?_
    refine WP.seq ?_
    refine WP.region ?_
    refine RG.pv rfl (PV.move (v := fv) rfl rfl) ?_
    refine RG.pv rfl (PV.move (v := v) rfl rfl) ?_
    refine RG.pv rfl (PV.mvI (.inl rfl) rfl) ?_
    refine RG.pv rfl (PV.idxS (v := v) rfl Is138 rfl (SlF.r h1) rfl rfl (by omega)) ?_
    refine RG.pv rfl (PV.loadE rfl Ag143 rfl rfl (El.r h1 (getG (by omega)))) ?_
    refine RG.callB (vs := [_]) rfl rfl rfl rfl (CB.up (hf i (by omega))) ?_
    refine RG.nil ?_
    refine WP.cond rfl (fun h3 => ?_) (fun h3 => ?_)
    · rw [idxI_at (by omega) h3 hj] at k
      refine WP.seq ?_
      refine WP.region ?_
      refine RG.pv rfl (PV.mvI (.inl rfl) rfl) ?_
      refine RG.pv rfl (PV.mvI (.inr rfl) rfl) ?_
      refine RG.nil ?_
      refine WP.ret ?_
      exact ⟨_, _, ResV.one rfl rfl, Cv.p, k⟩
    · have hj' : ∀ j, j < i + 1 → p (gd xs j) = false := fun j h => by
        by_cases c : j = i
        · rw [c]; exact h3
        · exact hj j (by omega)
      refine WP.skip ?_
      refine WP.region ?_
      refine RG.pv rfl (PV.add rfl rfl rfl (by omega)) ?_
      refine RG.pv rfl (PV.mvI (.inl rfl) rfl) ?_
      refine RG.nil ?_
      exact ⟨rfl, i + 1, ⟨by omega, hj'⟩, ⟨rfl, trivial⟩, ⟨rfl, rfl, rfl, trivial⟩, Cv.p, by omega⟩
  · have h2 := of_decide_eq_false h2
    rw [idxI_none (fun j h => hj j (by omega))] at k
    refine WP.exit ?_
    refine WP.seq ?_
    refine WP.region ?_
    refine RG.pv rfl (PV.mvI (.inr rfl) rfl) ?_
    refine RG.nil ?_
    refine WP.ret ?_
    exact ⟨_, _, ResV.one rfl rfl, Cv.p, k⟩
theorem containsF_piece {v fv : Value} {xs : List (Piece)} {p : (Piece) → Bool} (h1 : Rs G L pieceT v xs) (hf : ∀ i, i < xs.length → CB Tryz.prog G L fv [vT pieceT (gd xs i)] (.bool (p (gd xs i)))) (k : R (.bool (xs.any p)) G L) : CallT Tryz.prog 100 #[v, fv] G L R := by
  rw [← idxI_any] at k
  refine CallT.enter (args := _) Tryz.func100 rfl rfl (by kernel_rfl) rfl ?_
  refine WP.seq ?_
  refine WP.region ?_
  refine RG.pv rfl (PV.mvB (.inr rfl) rfl) ?_
  refine RG.nil ?_
  refine WP.seq ?_
  refine WP.region ?_
  refine RG.pv rfl (PV.move (v := v) rfl rfl) ?_
  refine RG.pv rfl (PV.move (v := fv) rfl rfl) ?_
  refine RG.callF (vs := [v, fv]) rfl rfl En146 rfl (indexF_piece (Rs.up h1) (fun i hi => (hf i hi).up) ?_)
  refine RG.pv rfl (PV.geq rfl rfl rfl) ?_
  refine RG.pv rfl (PV.mvB (.inr rfl) rfl) ?_
  refine RG.nil ?_
  refine WP.ret ?_
  exact ⟨_, _, ResV.one rfl rfl, Cv.p, k⟩
theorem indexF_net {v fv : Value} {xs : List (Net)} {p : (Net) → Bool} (h1 : Rs G L netT v xs) (hf : ∀ i, i < xs.length → CB Tryz.prog G L fv [vT netT (gd xs i)] (.bool (p (gd xs i)))) (k : R (vi (idxI p xs)) G L) : CallT Tryz.prog 98 #[v, fv] G L R := by
  refine CallT.bd h1 fun hb => ?_
  refine CallT.enter (args := _) Tryz.func98 rfl rfl (by kernel_rfl) rfl ?_
  refine WP.seq ?_
  refine WP.region ?_
  refine RG.pv rfl (PV.mvI (.inr rfl) rfl) ?_
  refine RG.nil ?_
  refine WP.seq ?_
  refine WP.seq ?_
  refine WP.region ?_
  refine RG.pv rfl (PV.move (v := v) rfl rfl) ?_
  refine RG.pv rfl (PV.len (v := v) rfl Tryz.underlying86 rfl (SlF.r h1)) ?_
  refine RG.pv rfl (PV.mvI (.inl rfl) rfl) ?_
  refine RG.nil ?_
  refine WP.block ?_
  refine WP.loop1 [0, 1, 7] (fun i => i ≤ xs.length ∧ ∀ j, j < i → p (gd xs j) = false) (fun i => [(8, vi i)]) (fun i => L) (fun i => xs.length - i) 0 ⟨by omega, fun j h => by omega⟩ ⟨rfl, trivial⟩ Cv.p ?_
  rintro i τ ⟨hi, hj⟩
  refine WP.seq ?_
  refine WP.region ?_
  refine RG.pv rfl (PV.lss rfl rfl rfl) ?_
  refine RG.nil ?_
  refine WP.seq ?_
  refine WP.cond rfl (fun h2 => ?_) (fun h2 => ?_)
  · have h2 := of_decide_eq_true h2
    refine WP.skip ?_
    refine WP.seq ?_
    refine WP.block ?_
    refine WP.seq ?_
    refine WP.region ?_
    refine RG.pv rfl (PV.mvI (.inl rfl) rfl) ?_
    refine RG.pv rfl (PV.mvI (.inr rfl) rfl) ?_
    refine RG.nil ?_
    refine WP.seq ?_
    refine WP.region ?_
    refine RG.pv rfl (PV.move (v := fv) rfl rfl) ?_
    refine RG.pv rfl (PV.move (v := v) rfl rfl) ?_
    refine RG.pv rfl (PV.mvI (.inl rfl) rfl) ?_
    refine RG.pv rfl (PV.idxS (v := v) rfl Is86 rfl (SlF.r h1) rfl rfl (by omega)) ?_
    refine RG.pv rfl (PV.loadE rfl Ag140 rfl rfl (El.r h1 (getG (by omega)))) ?_
    refine RG.callB (vs := [_]) rfl rfl rfl rfl (CB.up (hf i (by omega))) ?_
    refine RG.nil ?_
    refine WP.cond rfl (fun h3 => ?_) (fun h3 => ?_)
    · rw [idxI_at (by omega) h3 hj] at k
      refine WP.seq ?_
      refine WP.region ?_
      refine RG.pv rfl (PV.mvI (.inl rfl) rfl) ?_
      refine RG.pv rfl (PV.mvI (.inr rfl) rfl) ?_
      refine RG.nil ?_
      refine WP.ret ?_
      exact ⟨_, _, ResV.one rfl rfl, Cv.p, k⟩
    · have hj' : ∀ j, j < i + 1 → p (gd xs j) = false := fun j h => by
        by_cases c : j = i
        · rw [c]; exact h3
        · exact hj j (by omega)
      refine WP.skip ?_
      refine WP.region ?_
      refine RG.pv rfl (PV.add rfl rfl rfl (by omega)) ?_
      refine RG.pv rfl (PV.mvI (.inl rfl) rfl) ?_
      refine RG.nil ?_
      exact ⟨rfl, i + 1, ⟨by omega, hj'⟩, ⟨rfl, trivial⟩, ⟨rfl, rfl, rfl, trivial⟩, Cv.p, by omega⟩
  · have h2 := of_decide_eq_false h2
    rw [idxI_none (fun j h => hj j (by omega))] at k
    refine WP.exit ?_
    refine WP.seq ?_
    refine WP.region ?_
    refine RG.pv rfl (PV.mvI (.inr rfl) rfl) ?_
    refine RG.nil ?_
    refine WP.ret ?_
    exact ⟨_, _, ResV.one rfl rfl, Cv.p, k⟩
theorem contains_s {v : Value} {xs : List Rect} {p : Pt} (h1 : Rs G L rectT v xs) (k : R (.bool (xs.any fun r => rHas r p.x p.y)) G L) : CallT Tryz.prog 102 #[v, vpt p] G L R := by
  refine CallT.enter (args := _) Tryz.func102 rfl rfl (by kernel_rfl) rfl ?_
  refine WP.seq ?_
  refine WP.region ?_
  refine RG.ot rfl (OT.box (cs := ptT.enc p) rfl rfl rfl fun b3 => ?_)
  refine RG.pv rfl (PV.mvB (.inr rfl) rfl) ?_
  refine RG.nil ?_
  refine WP.seq ?_
  refine WP.region ?_
  refine RG.pv rfl (PV.move (v := v) rfl rfl) ?_
  refine RG.pv rfl (PV.mkf1 rfl rfl) ?_
  refine RG.callF (vs := [v, _]) rfl rfl En147 rfl (containsF_rect (Rs.up h1) (p := fun r => rHas r p.x p.y) (fun i hi => CB.mk1 En148 fun L' R c k => contains1_s (RdN.cv RdN.blk c) k) ?_)
  refine RG.pv rfl (PV.mvB (.inr rfl) rfl) ?_
  refine RG.nil ?_
  refine WP.ret ?_
  exact ⟨_, _, ResV.one rfl rfl, Cv.p, k⟩
theorem netAt11_s {p : Piece} {b c : Nat} {n : Int} {q : Pt} (hr : Rs G L rectT p.reg.v p.reg.xs) (hb : Rd G L b 0 (vi n)) (hc : RdN G L c (ptT.enc q)) (k : R (.bool (atR n q.x q.y (erP p))) G L) : CallT Tryz.prog 101 #[vT pieceT p, .pointer (some ⟨b, 0, none⟩), .pointer (some ⟨c, 0, none⟩)] G L R := by
  refine CallT.enter (args := _) Tryz.func101 rfl rfl (by kernel_rfl) rfl ?_
  refine WP.seq ?_
  refine WP.region ?_
  refine RG.ot rfl (OT.box (cs := pieceT.enc p) rfl rfl rfl fun b3 => ?_)
  refine RG.pv rfl (PV.mvB (.inr rfl) rfl) ?_
  refine RG.nil ?_
  refine WP.seq ?_
  refine WP.region ?_
  refine RG.pv rfl (PV.field rfl Fo143_0 rfl) ?_
  refine RG.pv rfl (PV.load1 rfl Sc2 rfl (Rd.blk rfl)) ?_
  refine RG.pv rfl (PV.load1 rfl Sc2 rfl (Rd.up hb)) ?_
  refine RG.pv rfl (PV.eql rfl rfl rfl) ?_
  refine RG.pv rfl (PV.mvB (.inl rfl) rfl) ?_
  refine RG.gs rfl rfl rfl (fun hp => (PV.field rfl Fo143_1 rfl)) ?_
  refine RG.gs rfl rfl rfl (fun hp => (PV.load1 rfl Sc56 (gs_t hp) (Rd.blk rfl))) ?_
  refine RG.gs rfl rfl rfl (fun hp => (PV.loadA rfl Ag49 rfl rfl (RdN.up hc))) ?_
  refine RG.gsC rfl rfl rfl rfl En102 (fun hp => ⟨_, (acons (gs_t hp) (acons (gs_t hp) anil)), contains_s (Rs.up hr) ⟨rfl, rfl, rfl⟩⟩) ?_
  refine RG.pv rfl (PV.pickA rfl rfl (fun hq => gs_t (geqT hq)) rfl) ?_
  refine RG.pv rfl (PV.mvB (.inr rfl) rfl) ?_
  refine RG.nil ?_
  refine WP.ret ?_
  exact ⟨_, _, ResV.one rfl rfl, Cv.p, k⟩
theorem netAt1_s {z : Net} {b c : Nat} {n : Int} {q : Pt} (hp : Rs G L pieceT z.pieces.v z.pieces.xs) (hr : ∀ i, i < z.pieces.xs.length → Rs G L rectT (gd z.pieces.xs i).reg.v (gd z.pieces.xs i).reg.xs) (hb : Rd G L b 0 (vi n)) (hc : RdN G L c (ptT.enc q)) (k : R (.bool ((erPs z.pieces.xs).any (atR n q.x q.y))) G L) : CallT Tryz.prog 99 #[vT netT z, .pointer (some ⟨b, 0, none⟩), .pointer (some ⟨c, 0, none⟩)] G L R := by
  rw [erPs, List.any_map] at k
  refine CallT.enter (args := _) Tryz.func99 rfl rfl (by kernel_rfl) rfl ?_
  refine WP.seq ?_
  refine WP.region ?_
  refine RG.ot rfl (OT.box (cs := netT.enc z) rfl rfl rfl fun b3 => ?_)
  refine RG.pv rfl (PV.mvB (.inr rfl) rfl) ?_
  refine RG.nil ?_
  refine WP.seq ?_
  refine WP.region ?_
  refine RG.pv rfl (PV.field rfl Fo140_0 rfl) ?_
  refine RG.pv rfl (PV.load1 rfl Sc138 rfl (Rd.blk rfl)) ?_
  refine RG.pv rfl (PV.mkf2 rfl rfl rfl) ?_
  refine RG.callF (vs := [_, _]) rfl rfl En100 rfl (containsF_piece (Rs.up hp) (p := fun r => atR n q.x q.y (erP r)) (fun i hi => CB.mk2 En101 fun L' R e k => netAt11_s ((hr i hi).up.cv e) (Rd.cv hb.up e) (RdN.cv hc.up e) k) ?_)
  refine RG.pv rfl (PV.mvB (.inr rfl) rfl) ?_
  refine RG.nil ?_
  refine WP.ret ?_
  exact ⟨_, _, ResV.one rfl rfl, Cv.p, k⟩
theorem idxI_map {α β : Type} (q : β → Bool) (f : α → β) (xs : List α) : idxI q (xs.map f) = idxI (fun a => q (f a)) xs := by
  simp only [idxI, List.findIdx?_map]; rfl
theorem nps_er (zs : List Net) : (er (nps zs)).map erPs = zs.map fun z => erPs z.pieces.xs := by simp [er, nps, Function.comp_def]
theorem netAt_s {v : Value} {zs : List Net} {n : Int} {q : Pt} (h1 : Rs G L netT v zs) (hp : RsE G L pieceT (nps zs)) (hr : ∀ i, i < zs.length → RsE G L rectT (regs (gd zs i).pieces.xs)) (k : R (vi (idxI (fun net => net.any (atR n q.x q.y)) ((er (nps zs)).map erPs))) G L) : CallT Tryz.prog 56 #[v, vi n, vpt q] G L R := by
  rw [nps_er, idxI_map] at k
  have hp2 : ∀ i, i < zs.length → Rs G L pieceT (gd zs i).pieces.v (gd zs i).pieces.xs := fun i hi => by
    have := hp i (by rw [nps_len]; exact hi); rwa [nps_gd hi] at this
  refine CallT.enter (args := _) Tryz.func56 rfl rfl (by kernel_rfl) rfl ?_
  refine WP.seq ?_
  refine WP.region ?_
  refine RG.ot rfl (OT.box rfl rfl rfl fun b4 => ?_)
  refine RG.ot rfl (OT.box (cs := ptT.enc q) rfl rfl rfl fun b5 => ?_)
  refine RG.pv rfl (PV.mvI (.inr rfl) rfl) ?_
  refine RG.nil ?_
  refine WP.seq ?_
  refine WP.region ?_
  refine RG.pv rfl (PV.move (v := v) rfl rfl) ?_
  refine RG.pv rfl (PV.mkf2 rfl rfl rfl) ?_
  refine RG.callF (vs := [v, _]) rfl rfl En98 rfl (indexF_net (Rs.up h1) (p := fun z => (erPs z.pieces.xs).any (atR n q.x q.y)) (fun i hi => CB.mk2 En99 fun L' R e k => netAt1_s ((hp2 i hi).up.cv e) (fun j hj => ((hr i hi).reg hj).up.cv e) (Rd.cv (Rd.blk rfl) e) (RdN.cv RdN.blk e) k) ?_)
  refine RG.pv rfl (PV.mvI (.inr rfl) rfl) ?_
  refine RG.nil ?_
  refine WP.ret ?_
  exact ⟨_, _, ResV.one rfl rfl, Cv.p, k⟩
/-- all slices of a bag, by membership -/
theorem Rs.mem {α : Type} {G : Gh} {L L' : List Ch} {e : TypeId} {F : FT α} {xs : List (Sl α)} [hX : ExBg xs L e F L'] {s : Sl α} (h : s ∈ xs) : Rs G L F s.v s.xs := by
  obtain ⟨i, hi, rfl⟩ := List.getElem_of_mem h
  have := Rs.inBag (G := G) (L := L) (L' := L') (e := e) (F := F) (xs := xs) i hi
  rwa [gd_eq hi] at this
theorem RsE.flat {G : Gh} {L L' : List Ch} {e : TypeId} {zs : List Net} [hX : ExBg (regs (er (nps zs)).flatten) L e rectT L'] {i : Nat} (hi : i < zs.length) : RsE G L rectT (regs (gd zs i).pieces.xs) := fun j hj => by
  rw [regs_len] at hj
  rw [regs_gd hj]
  refine Rs.mem (L := L) (L' := L') (e := e) (xs := regs (er (nps zs)).flatten) (List.mem_map_of_mem ?_)
  refine List.mem_flatten.2 ⟨(gd zs i).pieces.xs, ?_, gd_mem hj⟩
  rw [← nps_gd hi, ← er_gd]
  exact gd_mem (by rw [er_len, nps_len]; exact hi)
noncomputable def atN (l : List (List Rect)) (n x y : Int) : Int := if netE l = 0 then findL l n x y else -1
theorem netAt_i {v : Value} {xs : List (Sl Rect)} {n : Int} {q : Pt} (h1 : Rs G L slT v xs) (hd : RsE G L rectT xs) (k : R (vi (atN (er xs) n q.x q.y)) G L) : CallT Tryz.prog 26 #[v, vi n, vpt q] G L R := by
  refine CallT.enter (args := _) Tryz.func26 rfl rfl (by kernel_rfl) rfl ?_
  refine WP.seq ?_
  refine WP.region ?_
  refine RG.ot rfl (OT.box (cs := ptT.enc q) rfl rfl rfl fun b5 => ?_)
  refine RG.pv rfl (PV.mvI (.inr rfl) rfl) ?_
  refine RG.nil ?_
  refine WP.seq ?_
  refine WP.region ?_
  refine RG.pv rfl (PV.move (v := v) rfl rfl) ?_
  refine RG.callF (vs := [v]) rfl rfl En55 rfl (nets_i (Rs.up h1) hd.up (fun w11 zsw11 hew11 => ?_))
  refine RG.pv rfl (PV.move (v := .tuple _) rfl rfl) ?_
  refine RG.pv rfl (PV.ext (v := w11) rfl rfl rfl) ?_
  refine RG.pv rfl (PV.ext rfl rfl rfl) ?_
  refine RG.pv rfl (PV.asg (v := w11) rfl rfl) ?_
  refine RG.pv rfl (PV.mvI (.inr rfl) rfl) ?_
  refine RG.nil ?_
  refine WP.seq ?_
  refine WP.seq ?_
  refine WP.region ?_
  refine RG.pv rfl (PV.mvI (.inl rfl) rfl) ?_
  refine RG.pv rfl (PV.neq rfl rfl rfl) ?_
  refine RG.nil ?_
  refine WP.cond rfl (fun h2 => ?_) (fun h2 => ?_)
  · have h3 : netE (er xs) ≠ 0 := by simpa using h2
    rw [atN, if_neg h3] at k
    refine WP.seq ?_
    refine WP.region ?_
    refine RG.pv rfl (PV.mvI (.inr rfl) rfl) ?_
    refine RG.nil ?_
    refine WP.ret ?_
    exact ⟨_, _, ResV.one rfl rfl, Cv.p, k⟩
  · have h3 : netE (er xs) = 0 := by simpa using h2
    have e : (er (nps zsw11)).map erPs = netL (er xs) := by rw [hew11, netR, if_pos h3]
    rw [atN, if_pos h3, ← netAt_eq, ← e] at k
    refine WP.skip ?_
    refine WP.seq ?_
    refine WP.region ?_
    refine RG.pv rfl (PV.move (v := w11) rfl rfl) ?_
    refine RG.pv rfl (PV.mvI (.inl rfl) rfl) ?_
    refine RG.pv rfl (PV.loadW rfl Ag49 rfl rfl) ?_
    refine RG.callF (vs := [w11, _, _]) rfl rfl En56 rfl (netAt_s Rs.o RsE.o (fun i hi => RsE.flat hi) ?_)
    refine RG.pv rfl (PV.mvI (.inr rfl) rfl) ?_
    refine RG.nil ?_
    refine WP.ret ?_
    exact ⟨_, _, ResV.one rfl rfl, Cv.p, k⟩
theorem l17Cell_c {v : Value} {S : List Bool} {x y : Int} (h1 : Rs G L boolT v S) (hS : S.length = 6400) (k : R (.bool (cellB S x y)) G L) : CallT Tryz.prog 88 #[v, vi x, vi y] G L R := l17Cell_s h1 hS k
theorem l23Find_s {u w : Value} {l : List (List Rect)} {cs : List Part} {n : Int} {q : Pt} (h1 : Rs G L partT u cs) (hcd : RsE G L boolT (cels cs)) (h2 : Rs G L intT w (nums (clsL l))) (hcs : cs.map erC = pcL l 4) (k : R (vi (findL l n q.x q.y)) G L) : CallT Tryz.prog 50 #[u, w, vi n, vpt q] G L R := by
  have hcl : cs.length = (pcL l 4).length := by rw [← hcs, List.length_map]
  have hpl := pcL_len l 4
  have hce : ∀ i, i < cs.length → erC (gd cs i) = gd (pcL l 4) i := fun i hi => by rw [← hcs, gd_map _ hi]
  have hc6 : ∀ i, i < cs.length → (gd cs i).cells.xs.length = 6400 := fun i hi => by
    have := pcL_gd_len (l := l) (i := i) (by omega)
    rw [← hce i hi] at this; exact this
  have hcr : ∀ i, i < cs.length → Rs G L boolT (gd cs i).cells.v (gd cs i).cells.xs := fun i hi => by
    have := hcd i (by rw [cels_len]; exact hi); rwa [cels_gd hi] at this
  have hnl : (nums (clsL l)).length = cs.length := by rw [nums, List.length_map, List.length_range, clsL_len, hcl]
  refine CallT.enter (args := _) Tryz.func50 rfl rfl (by kernel_rfl) rfl ?_
  refine WP.seq ?_
  refine WP.region ?_
  refine RG.ot rfl (OT.box (cs := ptT.enc q) rfl rfl rfl fun b7 => ?_)
  refine RG.pv rfl (PV.mvI (.inr rfl) rfl) ?_
  refine RG.nil ?_
  refine WP.seq ?_
  refine WP.seq ?_
  refine WP.region ?_
  refine RG.pv rfl (PV.mvI (.inr rfl) rfl) ?_
  refine RG.nil ?_
  refine WP.block ?_
  refine WP.loop1 [0, 1, 2, 7] (fun i => i ≤ cs.length ∧ ∀ j, j < i → atB n q.x q.y (gd (pcL l 4) j) = false) (fun i => [(9, vi i)]) (fun i => blk b7 49 (ptT.enc q) :: L) (fun i => cs.length - i) 0 ⟨by omega, fun j h => by omega⟩ ⟨rfl, trivial⟩ Cv.p ?_
  rintro i τ ⟨hi, hn⟩
  refine WP.seq ?_
  refine WP.seq ?_
  refine WP.region ?_
  refine RG.pv rfl (PV.mvI (.inl rfl) rfl) ?_
  refine RG.pv rfl (PV.move (v := u) rfl rfl) ?_
  refine RG.pv rfl (PV.len (v := u) rfl Tryz.underlying79 rfl (SlF.r h1)) ?_
  refine RG.pv rfl (PV.lss rfl rfl rfl) ?_
  refine RG.nil ?_
  refine WP.cond rfl (fun h3 => ?_) (fun h3 => ?_)
  · have h3 := of_decide_eq_true h3
    have h4 : i < cs.length := by omega
    have hat : atB n q.x q.y (gd (pcL l 4) i) = (decide ((gd cs i).layer = n) && cellB (gd cs i).cells.xs q.x q.y) := by rw [← hce i h4]; rfl
    refine WP.skip ?_
    refine WP.seq ?_
    refine WP.block ?_
    refine WP.seq ?_
    refine WP.regionQ (by kernel_rfl) (by kernel_rfl) ?_
    refine RQ.pv rfl (PV.move (v := u) rfl rfl) ?_
    refine RQ.pv rfl (PV.mvI (.inl rfl) rfl) ?_
    refine RQ.pv rfl (PV.idxS (v := u) rfl Is79 rfl (SlF.r h1) rfl rfl (by omega)) ?_
    refine RQ.pv rfl (PV.field rfl Fo127_0 rfl) ?_
    refine RQ.pv rfl (PV.loadF rfl Sc2 rfl rfl (El.r h1 (getG (by omega))) rfl) ?_
    refine RQ.pv rfl (PV.mvI (.inl rfl) rfl) ?_
    refine RQ.pv rfl (PV.eql rfl rfl rfl) ?_
    refine RQ.pv rfl (PV.mvB (.inl rfl) rfl) ?_
    refine RQ.gs rfl rfl rfl (fun hp => (PV.move (v := u) rfl rfl)) ?_
    refine RQ.gs rfl rfl rfl (fun hp => (PV.mvI (.inl rfl) rfl)) ?_
    refine RQ.gs rfl rfl rfl (fun hp => (PV.idxS (v := u) rfl Is79 (gs_t hp) (SlF.r h1) (gs_t hp) rfl (by first | omega | (simp at hp; omega)))) ?_
    refine RQ.gs rfl rfl rfl (fun hp => (PV.field rfl Fo127_1 (gs_t hp))) ?_
    refine RQ.gs rfl rfl rfl (fun hp => (PV.loadF rfl Sc124 (gs_t hp) rfl (El.r h1 (getG (by first | omega | (simp at hp; omega)))) rfl)) ?_
    refine RQ.gs rfl rfl rfl (fun hp => (PV.field rfl Fo49_0 rfl)) ?_
    refine RQ.gs rfl rfl rfl (fun hp => (PV.load1 rfl Sc2 (gs_t hp) (Rd.blk rfl))) ?_
    refine RQ.gs rfl rfl rfl (fun hp => (PV.field rfl Fo49_1 rfl)) ?_
    refine RQ.gs rfl rfl rfl (fun hp => (PV.load1 rfl Sc2 (gs_t hp) (Rd.blk rfl))) ?_
    refine RQ.gsC rfl rfl rfl rfl En88 (fun hp => ⟨_, (acons (gs_t hp) (acons (gs_t hp) (acons (gs_t hp) anil))), l17Cell_c (hcr i (by omega)).up (hc6 i (by omega)) ⟨rfl, rfl, rfl⟩⟩) ?_
    refine RQ.pv rfl (PV.pickA rfl rfl (fun hq => gs_t (geqT hq)) rfl) ?_
    refine RQ.nil ?_
    refine WP.cond rfl (fun h5 => ?_) (fun h5 => ?_)
    · have hg : gd (nums (clsL l)) i = (numR (clsL l) i : Int) := by
        rw [nums, gd_map _ (by rw [List.length_range, clsL_len]; omega)]
        simp [gd, clsL_len, ← hcl, h4]
      rw [findL_at (i := i) (by omega) (by rw [hat]; exact h5), ← hg] at k
      refine WP.seq ?_
      refine WP.region ?_
      refine RG.pv rfl (PV.move (v := w) rfl rfl) ?_
      refine RG.pv rfl (PV.mvI (.inl rfl) rfl) ?_
      refine RG.pv rfl (PV.idxS (v := w) rfl Is26 rfl (SlF.r h2) rfl rfl (by omega)) ?_
      refine RG.pv rfl (PV.loadE1 rfl Sc2 rfl rfl (El.r h2 (getG (by omega))) rfl) ?_
      refine RG.pv rfl (PV.mvI (.inr rfl) rfl) ?_
      refine RG.nil ?_
      refine WP.ret ?_
      exact ⟨_, _, ResV.one rfl rfl, Cv.p, k⟩
    · refine WP.skip ?_
      refine WP.region ?_
      refine RG.pv rfl (PV.mvI (.inl rfl) rfl) ?_
      refine RG.pv rfl (PV.add rfl rfl rfl (by omega)) ?_
      refine RG.pv rfl (PV.mvI (.inr rfl) rfl) ?_
      refine RG.nil ?_
      exact ⟨rfl, i + 1, ⟨by omega, col_next hn (by rw [hat]; exact h5)⟩, ⟨rfl, trivial⟩, ⟨rfl, rfl, rfl, rfl, trivial⟩, Cv.p, by omega⟩
  · have h3 := of_decide_eq_false h3
    rw [findL_none (fun j hj => hn j (by omega))] at k
    refine WP.exit ?_
    refine WP.seq ?_
    refine WP.region ?_
    refine RG.pv rfl (PV.mvI (.inr rfl) rfl) ?_
    refine RG.nil ?_
    refine WP.ret ?_
    exact ⟨_, _, ResV.one rfl rfl, Cv.p, k⟩
theorem toPoint_s {p : Pt} (k : R (vpt p) G L) : CallT Tryz.prog 90 #[vpt p] G L R := by
  refine CallT.enter (args := _) Tryz.func90 rfl rfl (by kernel_rfl) rfl ?_
  refine WP.seq ?_
  refine WP.region ?_
  refine RG.ot rfl (OT.box (cs := ptT.enc p) rfl rfl rfl fun b1 => ?_)
  refine RG.ot rfl (OT.alloc rfl Zr49 fun b2 => ?_)
  refine RG.nil ?_
  refine WP.seq ?_
  refine WP.region ?_
  refine RG.ot rfl (OT.alloc rfl Zr49 fun b3 => ?_)
  refine RG.nil ?_
  refine WP.seq ?_
  refine WP.region ?_
  refine RG.pv rfl (PV.field rfl Fo74_0 rfl) ?_
  refine RG.pv rfl (PV.load1 rfl Sc2 rfl (Rd.blk rfl)) ?_
  refine RG.pv rfl (PV.field rfl Fo49_0 rfl) ?_
  refine RG.ot rfl (OT.storeB (vs := [vi _]) (cs' := [_, _]) rfl Sz2 rfl rfl (Cl.c rfl) rfl (OneC.c rfl) rfl rfl ?_)
  refine RG.nil ?_
  refine WP.seq ?_
  refine WP.region ?_
  refine RG.pv rfl (PV.field rfl Fo74_1 rfl) ?_
  refine RG.pv rfl (PV.load1 rfl Sc2 rfl (Rd.blk rfl)) ?_
  refine RG.pv rfl (PV.field rfl Fo49_1 rfl) ?_
  refine RG.ot rfl (OT.storeB (vs := [vi _]) (cs' := [_, _]) rfl Sz2 rfl rfl (Cl.c rfl) rfl (OneC.c rfl) rfl rfl ?_)
  refine RG.nil ?_
  refine WP.seq ?_
  refine WP.region ?_
  refine RG.pv rfl (PV.loadW rfl Ag49 rfl rfl) ?_
  refine RG.ot rfl (OT.storeW (vs := [vi _, vi _]) rfl Sz49 rfl rfl (Cl.c rfl) rfl rfl (OneC.c rfl) ?_)
  refine RG.nil ?_
  refine WP.ret ?_
  exact ⟨_, _, ResV.one rfl (RV1.cell rfl Ag49 rfl), Cv.p, k⟩
end Go.Proofs.YtmomfgfmnpblpaaGreat
namespace Go.Proofs.YtmomfgfmnpblpaaGreat
set_option linter.unusedVariables false
set_option linter.unusedSimpArgs false
open Go
set_option linter.unusedSimpArgs false
set_option maxRecDepth 20000
def one (b : Bool) : Int := bif b then 1 else 0
theorem one_and (a b : Bool) : one (a && b) = one a * one b := by cases a <;> cases b <;> rfl
theorem one_nn (b : Bool) : 0 ≤ one b ∧ one b ≤ 1 := by cases b <;> simp [one]
def sumF (f : Nat → Int) : Nat → Int
  | 0 => 0
  | n + 1 => sumF f n + f n
def cntF (f : Nat → Bool) (n : Nat) : Int := sumF (fun k => one (f k)) n
theorem cntF_succ (f : Nat → Bool) (n : Nat) : cntF f (n + 1) = cntF f n + one (f n) := rfl
theorem cntF_bd (f : Nat → Bool) : ∀ n, 0 ≤ cntF f n ∧ cntF f n ≤ n
  | 0 => by simp [cntF, sumF]
  | n + 1 => by
    have := cntF_bd f n
    have := one_nn (f n)
    rw [cntF_succ]; omega
theorem sumF_congr {f g : Nat → Int} : ∀ {n : Nat}, (∀ k, k < n → f k = g k) → sumF f n = sumF g n
  | 0, _ => rfl
  | n + 1, h => by rw [sumF, sumF, sumF_congr fun k hk => h k (by omega), h n (by omega)]
theorem sumF_mul (f : Nat → Int) (c : Int) : ∀ n, sumF (fun k => f k * c) n = sumF f n * c
  | 0 => by simp [sumF]
  | n + 1 => by rw [sumF, sumF, sumF_mul f c n, Int.add_mul]
theorem sumF_bd {f : Nat → Int} {B : Int} (h : ∀ k, 0 ≤ f k ∧ f k ≤ B) : ∀ n, 0 ≤ sumF f n ∧ sumF f n ≤ n * B
  | 0 => by simp [sumF]
  | n + 1 => by
    have h1 := sumF_bd h n
    have h2 := h n
    rw [sumF, Int.natCast_add, Int.add_mul]; omega
/-- how many of the places b, b + 1, .. lie between a and c -/
theorem cntF_between (a b c : Int) : ∀ n, cntF (fun k => decide (a ≤ b + k) && decide (b + k < c)) n = max 0 (min c (b + n) - max a b)
  | 0 => by simp only [cntF, sumF]; omega
  | n + 1 => by
    rw [cntF_succ, cntF_between a b c n]
    by_cases h1 : a ≤ b + n <;> by_cases h2 : b + (n : Int) < c
    · rw [decide_eq_true h1, decide_eq_true h2]; simp only [one, Bool.and_self, cond_true]; omega
    · rw [decide_eq_true h1, decide_eq_false h2]; simp only [one, Bool.and_false, cond_false]; omega
    · rw [decide_eq_false h1, decide_eq_true h2]; simp only [one, Bool.false_and, cond_false]; omega
    · rw [decide_eq_false h1, decide_eq_false h2]; simp only [one, Bool.false_and, cond_false]; omega
theorem costL_add {α : Type} (f g : α → Int) : ∀ xs : List α, costL (fun x => f x + g x) xs = costL f xs + costL g xs
  | [] => by simp [costL]
  | x :: xs => by simp only [costL, costL_add f g xs]; omega
theorem costL_congr {α : Type} {f g : α → Int} : ∀ {xs : List α}, (∀ x ∈ xs, f x = g x) → costL f xs = costL g xs
  | [], _ => rfl
  | x :: xs, h => by rw [costL, costL, h x (.head _), costL_congr fun y hy => h y (.tail _ hy)]
theorem costL_zero {α : Type} (xs : List α) : costL (fun _ => 0) xs = 0 := by rw [costL_const]; simp
theorem sumF_costL {α : Type} (f : Nat → α → Int) (xs : List α) : ∀ n, sumF (fun k => costL (f k) xs) n = costL (fun x => sumF (fun k => f k x) n) xs
  | 0 => by simp [sumF, costL_zero]
  | n + 1 => by rw [sumF, sumF_costL f xs n, ← costL_add]; rfl
theorem one_any {α : Type} {p : α → Bool} : ∀ {xs : List α}, xs.Pairwise (fun a b => ¬ (p a = true ∧ p b = true)) → one (xs.any p) = costL (fun x => one (p x)) xs
  | [], _ => rfl
  | x :: xs, h => by
    rw [List.pairwise_cons] at h
    rw [List.any_cons, costL, ← one_any h.2]
    cases hp : p x
    · simp [one]
    · have : xs.any p = false := by
        rw [List.any_eq_false]; intro y hy hq; exact h.1 y hy ⟨hp, hq⟩
      rw [this]; rfl
theorem runs_ge (r : Nat → Bool) (x : Nat) : ∀ p ∈ runsFrom r x, x ≤ p.1 := by
  intro p hp
  rw [runsFrom] at hp
  by_cases h : x < 80
  · rw [if_pos h] at hp
    by_cases hr : r x = true
    · rw [if_pos hr] at hp
      have h1 := runEnd_ge r (x + 1)
      rcases List.mem_cons.1 hp with rfl | hp
      · exact Nat.le_refl _
      · have := runs_ge r _ p hp; omega
    · rw [if_neg hr] at hp; have := runs_ge r _ p hp; omega
  · rw [if_neg h] at hp; cases hp
termination_by 80 - x
decreasing_by
  · have := runEnd_ge r (x + 1); omega
  · omega
theorem runs_apart (r : Nat → Bool) (x : Nat) : (runsFrom r x).Pairwise fun p q => p.2 ≤ q.1 := by
  rw [runsFrom]
  split
  · split
    · rw [List.pairwise_cons]
      have h1 := runEnd_ge r (x + 1)
      refine ⟨fun q hq => ?_, runs_apart r _⟩
      have := runs_ge r _ q hq; simp only; omega
    · exact runs_apart r (x + 1)
  · exact .nil
termination_by 80 - x
decreasing_by
  · have := runEnd_ge r (x + 1); omega
  · omega
theorem canonFrom_ge (bs : List Bool) (y : Nat) : ∀ r ∈ canonFrom bs y, (y : Int) - 40 ≤ r.y0 := by
  intro r hr
  rw [canonFrom] at hr
  by_cases h : y < 80
  · rw [if_pos h] at hr
    have h1 := endFrom_ge bs y (y + 1)
    rcases List.mem_append.1 hr with hr | hr
    · obtain ⟨p, hp, rfl⟩ := List.mem_map.1 hr
      simp only [mkR]; omega
    · have := canonFrom_ge bs _ r hr; omega
  · rw [if_neg h] at hr; cases hr
termination_by 80 - y
decreasing_by have := endFrom_ge bs y (y + 1); omega
theorem canonFrom_apart (bs : List Bool) (y : Nat) : (canonFrom bs y).Pairwise fun r q => ∀ v u, ¬ (inR r v u = true ∧ inR q v u = true) := by
  rw [canonFrom]
  split
  · rename_i h
    have h1 := endFrom_ge bs y (y + 1)
    rw [List.pairwise_append]
    refine ⟨?_, canonFrom_apart bs _, fun r hr q hq v u => ?_⟩
    · rw [List.pairwise_map]
      refine (runs_apart (gb bs y) 0).imp ?_
      intro p q hpq v u ⟨h1, h2⟩
      rw [inR_iff] at h1 h2; simp only [mkR] at h1 h2; omega
    · obtain ⟨p, _, rfl⟩ := List.mem_map.1 hr
      have := canonFrom_ge bs _ q hq
      rintro ⟨h1, h2⟩
      rw [inR_iff] at h1 h2; simp only [mkR] at h1; omega
  · exact .nil
termination_by 80 - y
decreasing_by have := endFrom_ge bs y (y + 1); omega
theorem reg_apart {xs : List Rect} (h : isReg xs = true) (v u : Nat) : xs.Pairwise fun r q => ¬ (inR r v u = true ∧ inR q v u = true) := by
  have := canonFrom_apart (bits xs) 0
  rw [show canonFrom (bits xs) 0 = canon (bits xs) from rfl, isReg_eq h] at this
  exact this.imp fun k => k v u
def wR (r : Rect) : Nat := (r.x1 - r.x0).toNat
def hR (r : Rect) : Nat := (r.y1 - r.y0).toNat
/-- cells of a row, of a column, of a box -/
def tH (D : List Bool) (y x0 : Int) (n : Nat) : Int := cntF (fun k => cellB D (x0 + k) y) n
def tV (D : List Bool) (x y0 : Int) (n : Nat) : Int := cntF (fun k => cellB D x (y0 + k)) n
def covB (S : List Bool) (r : Rect) : Int := sumF (fun j => tH S (r.y0 + j) r.x0 (wR r)) (hR r)
def covI (xs : List Rect) (r : Rect) : Int := costL (fun q => if validRect (cmn q r) = true then areaR (cmn q r) else 0) xs
theorem covB_nn (S : List Bool) (r : Rect) : 0 ≤ covB S r ∧ covB S r ≤ hR r * wR r := sumF_bd (fun _ => cntF_bd _ _) _
theorem box_count {q r : Rect} (hq : validRect q = true) (hr : validRect r = true) : sumF (fun j => cntF (fun k => (decide (q.x0 ≤ r.x0 + k) && decide (r.x0 + (k : Int) < q.x1)) && (decide (q.y0 ≤ r.y0 + j) && decide (r.y0 + (j : Int) < q.y1))) (wR r)) (hR r) = if validRect (cmn q r) = true then areaR (cmn q r) else 0 := by
  have e : ∀ j : Nat, cntF (fun k => (decide (q.x0 ≤ r.x0 + k) && decide (r.x0 + (k : Int) < q.x1)) && (decide (q.y0 ≤ r.y0 + j) && decide (r.y0 + (j : Int) < q.y1))) (wR r) = one (decide (q.y0 ≤ r.y0 + j) && decide (r.y0 + (j : Int) < q.y1)) * cntF (fun k => decide (q.x0 ≤ r.x0 + k) && decide (r.x0 + (k : Int) < q.x1)) (wR r) := fun j => by
    simp only [cntF, one_and]
    rw [← one_and (decide (q.y0 ≤ r.y0 + j)), Int.mul_comm, ← sumF_mul]
  rw [sumF_congr fun j _ => e j, sumF_mul]
  show cntF _ _ * _ = _
  rw [cntF_between, cntF_between]
  rw [validR_iff] at hq hr
  have h1 : (wR r : Int) = r.x1 - r.x0 := by simp only [wR]; omega
  have h2 : (hR r : Int) = r.y1 - r.y0 := by simp only [hR]; omega
  rw [h1, h2]
  by_cases c : validRect (cmn q r) = true
  · rw [if_pos c]
    rw [validR_iff] at c; simp only [cmn] at c
    simp only [areaR, cmn]
    rw [Int.mul_comm, show max 0 (min q.x1 (r.x0 + (r.x1 - r.x0)) - max q.x0 r.x0) = min q.x1 r.x1 - max q.x0 r.x0 by omega, show max 0 (min q.y1 (r.y0 + (r.y1 - r.y0)) - max q.y0 r.y0) = min q.y1 r.y1 - max q.y0 r.y0 by omega]
  · rw [if_neg c]
    rw [validR_iff] at c; simp only [cmn] at c
    by_cases d : min q.x1 r.x1 ≤ max q.x0 r.x0
    · rw [show max 0 (min q.x1 (r.x0 + (r.x1 - r.x0)) - max q.x0 r.x0) = 0 by omega, Int.mul_zero]
    · rw [show max 0 (min q.y1 (r.y0 + (r.y1 - r.y0)) - max q.y0 r.y0) = 0 by omega, Int.zero_mul]
/-- the areas of the parts of a region in a box add up to its cells in the box -/
theorem cov_eq {xs : List Rect} {r : Rect} (hx : isReg xs = true) (hr : validRect r = true) : covI xs r = covB (bits xs) r := by
  have hv := isReg_valid hx
  have hr2 := validR_iff.1 hr
  have e : ∀ j, j < hR r → tH (bits xs) (r.y0 + j) r.x0 (wR r) = costL (fun q => cntF (fun k => (decide (q.x0 ≤ r.x0 + k) && decide (r.x0 + (k : Int) < q.x1)) && (decide (q.y0 ≤ r.y0 + j) && decide (r.y0 + (j : Int) < q.y1))) (wR r)) xs := fun j hj => by
    simp only [tH, cntF]
    rw [← sumF_costL]
    refine sumF_congr fun k hk => ?_
    have hin : -40 ≤ r.x0 + (k : Int) ∧ r.x0 + (k : Int) < 40 ∧ -40 ≤ r.y0 + (j : Int) ∧ r.y0 + (j : Int) < 40 := by
      simp only [hR, wR] at hj hk; omega
    rw [cellB_in hin, gb_bits' _ (by omega) (by omega), one_any (reg_apart hx _ _)]
    refine costL_congr fun q hq => ?_
    congr 1
    rw [Bool.eq_iff_iff, inR_iff]
    simp only [Bool.and_eq_true, decide_eq_true_eq]
    omega
  rw [covB, sumF_congr e, sumF_costL, covI]
  exact costL_congr fun q hq => (box_count (valid_mem hv hq) hr).symm
def flowI (a b c d H W : Int) : Int := if a = H ∧ b = H ∧ c = 0 ∧ d = 0 then 1 else if a = 0 ∧ b = 0 ∧ c = W ∧ d = W then 2 else 0
def flowB (D : List Bool) (r : Rect) : Int := flowI (tV D (r.x0 - 1) r.y0 (hR r)) (tV D r.x1 r.y0 (hR r)) (tH D (r.y0 - 1) r.x0 (wR r)) (tH D r.y1 r.x0 (wR r)) (r.y1 - r.y0) (r.x1 - r.x0)
theorem flowI_level {a b c d H W : Int} (hH : 0 < H) (hW : 0 < W) (ha : 0 ≤ a ∧ a ≤ H) (hb : 0 ≤ b ∧ b ≤ H) (hc : 0 ≤ c ∧ c ≤ W) (hd : 0 ≤ d ∧ d ≤ W) :
    (decide (a + b = 2 * H) && decide (c + d = 0)) = decide (flowI a b c d H W = 1) ∧ (decide (c + d = 2 * W) && decide (a + b = 0)) = decide (flowI a b c d H W = 2) := by
  unfold flowI
  constructor
  · rw [Bool.eq_iff_iff]
    simp only [Bool.and_eq_true, decide_eq_true_eq]
    split
    · simp; omega
    · split <;> simp <;> omega
  · rw [Bool.eq_iff_iff]
    simp only [Bool.and_eq_true, decide_eq_true_eq]
    split
    · simp; omega
    · split <;> simp <;> omega
def difC (l : List (List Rect)) : List Bool := gd (condB l) 0
def regC (l : List (List Rect)) : List Bool := zipB (fun p q => p && q) (bits (gd l 0)) (bits (gd l 1))
noncomputable def partsC (l : List (List Rect)) : List (List Rect) := partsL (regC l)
def chF (l : List (List Rect)) (g : List Rect) : Int := if g.length = 1 then flowB (difC l) (gd g 0) else 0
def chK (l : List (List Rect)) (g : List Rect) : Int := if chF l g = 0 then -1 else if covB (bits (gd l 6)) (gd g 0) = 0 then 0 else if covB (bits (gd l 6)) (gd g 0) = areaR (gd g 0) then 1 else -1
def mkCh (l : List (List Rect)) (g : List Rect) : Chan := ⟨gd g 0, chK l g, decide (chF l g = 1)⟩
def isCh (l : List (List Rect)) (g : List Rect) : Bool := decide (0 ≤ chK l g)
noncomputable def chans (l : List (List Rect)) : List Chan := ((partsC l).filter (isCh l)).map (mkCh l)
noncomputable def malf (l : List (List Rect)) : List (List Rect) := (partsC l).filter fun g => !isCh l g
theorem regC_len (l : List (List Rect)) : (regC l).length = 6400 := zipB_len (bits_length _) (bits_length _)
theorem difC_len (l : List (List Rect)) : (difC l).length = 6400 := condB_len l (by omega)
theorem flow_bd (D : List Bool) (r : Rect) : 0 ≤ flowB D r ∧ flowB D r ≤ 2 := by unfold flowB flowI; split <;> (try split) <;> omega
theorem chK_bd (l : List (List Rect)) (g : List Rect) : -1 ≤ chK l g ∧ chK l g ≤ 1 := by unfold chK; split <;> (try split) <;> (try split) <;> omega
/-- the parts of the channel region: not empty, of valid rectangles, regions -/
theorem partsC_ne {l : List (List Rect)} {g : List Rect} (h : g ∈ partsC l) : 0 < g.length ∧ isReg g = true := by
  obtain ⟨i, hi, rfl⟩ := List.getElem_of_mem h
  have hi2 : i < (firsts (regC l) 6400).length := by rwa [partsC, partsL_len] at hi
  have e : (partsC l)[i] = canon (compB (regC l) (cel (gd (firsts (regC l) 6400) i))) := by
    rw [← gd_eq hi]; exact partsL_gd hi2
  rw [e]
  exact ⟨(canon_first (firsts_first hi2)).1, isReg_canon (compB_len _ _)⟩
theorem valid_first {g : List Rect} (h0 : 0 < g.length) (h : isReg g = true) : validRect (gd g 0) = true := valid_mem (isReg_valid h) (gd_mem' h0)
  where gd_mem' {g : List Rect} (h0 : 0 < g.length) : gd g 0 ∈ g := by rw [gd_eq h0]; exact List.getElem_mem h0
theorem areaR_pos {r : Rect} (h : validRect r = true) : 0 < areaR r := by
  rw [validR_iff] at h
  exact Int.mul_pos (by omega) (by omega)
/-- the program's two counts tell the current -/
theorem flow_level {D : List Bool} {r : Rect} (hr : validRect r = true) :
    (decide (tV D (r.x0 - 1) r.y0 (hR r) + tV D r.x1 r.y0 (hR r) = 2 * (r.y1 - r.y0)) && decide (tH D (r.y0 - 1) r.x0 (wR r) + tH D r.y1 r.x0 (wR r) = 0)) = decide (flowB D r = 1) ∧
    (decide (tH D (r.y0 - 1) r.x0 (wR r) + tH D r.y1 r.x0 (wR r) = 2 * (r.x1 - r.x0)) && decide (tV D (r.x0 - 1) r.y0 (hR r) + tV D r.x1 r.y0 (hR r) = 0)) = decide (flowB D r = 2) := by
  rw [validR_iff] at hr
  have h1 := cntF_bd (fun k => cellB D (r.x0 - 1) (r.y0 + k)) (hR r)
  have h2 := cntF_bd (fun k => cellB D r.x1 (r.y0 + k)) (hR r)
  have h3 := cntF_bd (fun k => cellB D (r.x0 + k) (r.y0 - 1)) (wR r)
  have h4 := cntF_bd (fun k => cellB D (r.x0 + k) r.y1) (wR r)
  have e1 : (wR r : Int) = r.x1 - r.x0 := by simp only [wR]; omega
  have e2 : (hR r : Int) = r.y1 - r.y0 := by simp only [hR]; omega
  rw [e2] at h1 h2; rw [e1] at h3 h4
  exact flowI_level (by omega) (by omega) h1 h2 h3 h4
/-- the program's test for a malformed part, and its kind -/
def covC (l : List (List Rect)) (g : List Rect) : Int := covB (bits (gd l 6)) (gd g 0)
def lvl (l : List (List Rect)) (g : List Rect) : Int := tV (difC l) ((gd g 0).x0 - 1) (gd g 0).y0 (hR (gd g 0)) + tV (difC l) (gd g 0).x1 (gd g 0).y0 (hR (gd g 0))
def upr (l : List (List Rect)) (g : List Rect) : Int := tH (difC l) ((gd g 0).y0 - 1) (gd g 0).x0 (wR (gd g 0)) + tH (difC l) (gd g 0).y1 (gd g 0).x0 (wR (gd g 0))
def horC (l : List (List Rect)) (g : List Rect) : Bool := decide (lvl l g = 2 * ((gd g 0).y1 - (gd g 0).y0)) && decide (upr l g = 0)
def verC (l : List (List Rect)) (g : List Rect) : Bool := decide (upr l g = 2 * ((gd g 0).x1 - (gd g 0).x0)) && decide (lvl l g = 0)
theorem horC_eq {l : List (List Rect)} {g : List Rect} (h0 : 0 < g.length) (hg : isReg g = true) : horC l g = decide (flowB (difC l) (gd g 0) = 1) := (flow_level (valid_first h0 hg)).1
theorem verC_eq {l : List (List Rect)} {g : List Rect} (h0 : 0 < g.length) (hg : isReg g = true) : verC l g = decide (flowB (difC l) (gd g 0) = 2) := (flow_level (valid_first h0 hg)).2
theorem chan_cond {l : List (List Rect)} {g : List Rect} (h0 : 0 < g.length) (hg : isReg g = true) :
    ((decide ((1 : Int) < (g.length : Int)) || (!horC l g && !verC l g)) || (!decide (covC l g = 0) && !decide (covC l g = areaR (gd g 0)))) = !isCh l g := by
  rw [horC_eq h0 hg, verC_eq h0 hg, isCh, chK, chF, covC]
  have hf := flow_bd (difC l) (gd g 0)
  have ha := areaR_pos (valid_first h0 hg)
  rw [Bool.eq_iff_iff]
  simp only [Bool.or_eq_true, Bool.and_eq_true, Bool.not_eq_true', decide_eq_true_eq, decide_eq_false_iff_not]
  generalize flowB (difC l) (gd g 0) = f at *
  generalize covB (bits (gd l 6)) (gd g 0) = c at *
  generalize areaR (gd g 0) = a at *
  by_cases h1 : g.length = 1
  · rw [if_pos h1]
    by_cases h2 : f = 0
    · rw [if_pos h2]; omega
    · rw [if_neg h2]
      by_cases h3 : c = 0
      · rw [if_pos h3]; omega
      · rw [if_neg h3]
        by_cases h4 : c = a
        · rw [if_pos h4]; omega
        · rw [if_neg h4]; omega
  · rw [if_neg h1, if_pos rfl]; omega
theorem chan_kind {l : List (List Rect)} {g : List Rect} (h0 : 0 < g.length) (hg : isReg g = true) (h : isCh l g = true) : g.length = 1 ∧ horC l g = decide (chF l g = 1) ∧ (if 0 < covC l g then (1 : Int) else 0) = chK l g ∧ 0 < chF l g := by
  rw [horC_eq h0 hg]
  have hf := flow_bd (difC l) (gd g 0)
  have hc := (covB_nn (bits (gd l 6)) (gd g 0)).1
  unfold isCh at h
  have h := of_decide_eq_true h
  unfold chK chF at *
  rw [covC]
  generalize flowB (difC l) (gd g 0) = f at *
  generalize covB (bits (gd l 6)) (gd g 0) = c at *
  generalize areaR (gd g 0) = a at *
  by_cases h1 : g.length = 1
  · rw [if_pos h1] at *
    by_cases h2 : f = 0
    · rw [if_pos h2] at h; omega
    · rw [if_neg h2] at *
      refine ⟨h1, rfl, ?_, by omega⟩
      by_cases h3 : c = 0
      · rw [if_pos h3, if_neg (by omega)]
      · rw [if_neg h3] at h
        by_cases h4 : c = a
        · rw [if_neg h3, if_pos h4, if_pos (by omega)]
        · rw [if_neg h4] at h; omega
  · rw [if_neg h1, if_pos rfl] at h; omega
theorem partsL_apart {S : List Bool} {i j : Nat} (hi : i < (partsL S).length) (hj : j < (partsL S).length) (e : gd (gd (partsL S) i) 0 = gd (gd (partsL S) j) 0) : i = j := by
  have hp := List.pairwise_iff_getElem.1 (comps_apart S)
  have hc : ∀ i, i < (partsL S).length → i < (comps S).length := fun i h => by simpa [partsL] using h
  have hg : ∀ i (h : i < (partsL S).length), gd (partsL S) i = canon ((comps S)[i]'(hc i h)) := fun i h => by rw [partsL, gd_map _ (hc i h), gd_eq (hc i h)]
  have key : ∀ i (h : i < (partsL S).length), ∃ y x, y < 80 ∧ x < 80 ∧ inR (gd (gd (partsL S) i) 0) y x = true := fun i h => by
    have h2 : i < (firsts S 6400).length := by rwa [partsL_len] at h
    have h0 : 0 < (gd (partsL S) i).length := by rw [partsL_gd h2]; exact (canon_first (firsts_first h2)).1
    have hr : isReg (gd (partsL S) i) = true := by rw [partsL_gd h2]; exact isReg_canon (compB_len _ _)
    exact valid_cell (valid_first h0 hr)
  have cell : ∀ i (h : i < (partsL S).length) {y x : Nat}, y < 80 → x < 80 → inR (gd (gd (partsL S) i) 0) y x = true → gb ((comps S)[i]'(hc i h)) y x = true := fun i h y x hy hx k => by
    have h2 : i < (firsts S 6400).length := by rwa [partsL_len] at h
    have h0 : 0 < (gd (partsL S) i).length := by rw [partsL_gd h2]; exact (canon_first (firsts_first h2)).1
    have hl : ((comps S)[i]'(hc i h)).length = 6400 := comps_mem (List.getElem_mem _)
    rw [← bits_canon hl, gb_bits_iff hy hx, ← hg i h]
    exact ⟨_, by rw [gd_eq h0]; exact List.getElem_mem h0, k⟩
  obtain ⟨y, x, hy, hx, k⟩ := key i hi
  have k1 := cell i hi hy hx k
  rw [e] at k
  have k2 := cell j hj hy hx k
  rcases Nat.lt_trichotomy i j with c | c | c
  · exact (hp i j (hc i hi) (hc j hj) c y x hy hx k1 k2).elim
  · exact c
  · exact (hp j i (hc j hj) (hc i hi) c y x hy hx k2 k1).elim
def hasG (box : Rect) (g : List Rect) : Bool := decide (g.length = 1) && decide (gd g 0 = box)
/-- kind and current of the channel with a rectangle, or -1 and 0 -/
noncomputable def hasK (l : List (List Rect)) (box : Rect) : Int × Int :=
  match (partsC l).find? (hasG box) with
  | some g => (chK l g, if chK l g < 0 then 0 else chF l g)
  | none => (-1, 0)
noncomputable def chanW (l : List (List Rect)) (box : Rect) : Option Chan := (chans l).find? fun c => decide (c.box = box)
theorem find_filter_map {α β : Type} {p : α → Bool} {q : β → Bool} (f : α → β) : ∀ xs : List α, ((xs.filter p).map f).find? q = (xs.find? fun x => p x && q (f x)).map f
  | [] => rfl
  | x :: xs => by
    cases hp : p x
    · simp [hp, find_filter_map f xs]
    · cases hq : q (f x)
      · simp [hp, hq, find_filter_map f xs]
      · simp [hp, hq]
theorem find_gd {α : Type} [Inhabited α] {p : α → Bool} {xs : List α} {i : Nat} (hi : i < xs.length) (h : p (gd xs i) = true) (hj : ∀ j, j < i → p (gd xs j) = false) : xs.find? p = some (gd xs i) := by
  rw [List.find?_eq_some_iff_getElem]
  refine ⟨h, i, hi, (gd_eq hi).symm, fun j hji => ?_⟩
  have := hj j hji
  rw [gd_eq (by omega)] at this; simp [this]
theorem find_gd_none {α : Type} [Inhabited α] {p : α → Bool} {xs : List α} (h : ∀ j, j < xs.length → p (gd xs j) = false) : xs.find? p = none := by
  rw [List.find?_eq_none]
  intro x hx
  obtain ⟨j, hj, rfl⟩ := List.getElem_of_mem hx
  have := h j hj
  rw [gd_eq hj] at this; simp [this]
theorem find_some_gd {α : Type} [Inhabited α] {p : α → Bool} {xs : List α} {a : α} (h : xs.find? p = some a) : ∃ i, i < xs.length ∧ a = gd xs i ∧ p a = true := by
  obtain ⟨hp, i, hi, e, _⟩ := List.find?_eq_some_iff_getElem.1 h
  exact ⟨i, hi, by rw [gd_eq hi]; exact e.symm, hp⟩
/-- what the reference finds is what the program finds -/
theorem hasK_eq (l : List (List Rect)) (box : Rect) : hasK l box = match chanW l box with
    | some c => (c.kind, if c.hor then 1 else 2)
    | none => (-1, 0) := by
  unfold hasK chanW chans
  rw [find_filter_map]
  have len1 : ∀ g ∈ partsC l, isCh l g = true → g.length = 1 := fun g hg h => (chan_kind (partsC_ne hg).1 (partsC_ne hg).2 h).1
  cases h1 : (partsC l).find? (hasG box) with
  | none =>
    have : (partsC l).find? (fun x => isCh l x && decide ((mkCh l x).box = box)) = none := by
      rw [List.find?_eq_none] at h1 ⊢
      intro g hg h
      rw [Bool.and_eq_true] at h
      have h2 : gd g 0 = box := of_decide_eq_true h.2
      exact h1 g hg (by simp [hasG, len1 g hg h.1, h2])
    rw [this]; rfl
  | some g =>
    obtain ⟨i, hi, e, hp⟩ := find_some_gd h1
    have hgm : g ∈ partsC l := by rw [e, gd_eq hi]; exact List.getElem_mem hi
    simp only [hasG, Bool.and_eq_true, decide_eq_true_eq] at hp
    by_cases c : isCh l g = true
    · have hk := chan_kind (partsC_ne hgm).1 (partsC_ne hgm).2 c
      have : (partsC l).find? (fun x => isCh l x && decide ((mkCh l x).box = box)) = some g := by
        rw [e]
        refine find_gd hi (by rw [← e]; simp [c, mkCh, hp.2]) fun j hj => ?_
        cases hb : isCh l (gd (partsC l) j) && decide ((mkCh l (gd (partsC l) j)).box = box) with
        | false => rfl
        | true =>
          rw [Bool.and_eq_true] at hb
          have hb2 : gd (gd (partsC l) j) 0 = box := of_decide_eq_true hb.2
          have := partsL_apart (S := regC l) (i := j) (j := i) (by have : j < (partsC l).length := by omega
                                                                   exact this) hi (by
            show gd (gd (partsC l) j) 0 = gd (gd (partsC l) i) 0
            rw [hb2, ← e, hp.2])
          omega
      rw [this]
      have hk0 : 0 ≤ chK l g := of_decide_eq_true c
      simp only [Option.map_some, mkCh]
      rw [if_neg (by omega)]
      have hf := flow_bd (difC l) (gd g 0)
      have hf2 : chF l g = 1 ∨ chF l g = 2 := by
        have h4 := hk.2.2.2
        unfold chF at *
        rw [if_pos hk.1] at *; omega
      rcases hf2 with h5 | h5 <;> simp [h5]
    · have : (partsC l).find? (fun x => isCh l x && decide ((mkCh l x).box = box)) = none := by
        refine find_gd_none fun j hj => ?_
        cases hb : isCh l (gd (partsC l) j) && decide ((mkCh l (gd (partsC l) j)).box = box) with
        | false => rfl
        | true =>
          rw [Bool.and_eq_true] at hb
          have hb2 : gd (gd (partsC l) j) 0 = box := of_decide_eq_true hb.2
          have := partsL_apart (S := regC l) (i := j) (j := i) hj hi (by
            show gd (gd (partsC l) j) 0 = gd (gd (partsC l) i) 0
            rw [hb2, ← e, hp.2])
          subst this
          rw [← e] at hb; exact absurd hb.1 c
      rw [this]
      have hk : chK l g = -1 := by
        have := chK_bd l g
        simp [isCh] at c; omega
      simp [hk]
end Go.Proofs.YtmomfgfmnpblpaaGreat
namespace Go.Proofs.YtmomfgfmnpblpaaGreat
set_option linter.unusedVariables false
set_option linter.unusedSimpArgs false
open Go
set_option maxRecDepth 20000
set_option linter.unusedSimpArgs false
variable {G : Gh} {L : List Ch} {R : Value → Gh → List Ch → Prop}
theorem Cv.blkEq {b : Nat} {t : TypeId} {cs cs' : List Value} {L : List Ch} (h : cs = cs') : Cv (blk b t cs :: L) (blk b t cs' :: L) := by subst h; exact Cv.refl _
theorem unitCell_s {p : Pt} (k : R (.bool (within p.x (-40) 39 && within p.y (-40) 39)) G L) : CallT Tryz.prog 142 #[vpt p] G L R := by
  refine CallT.enter (args := _) Tryz.func142 rfl rfl (by kernel_rfl) rfl ?_
  refine WP.seq ?_
  refine WP.region ?_
  refine RG.ot rfl (OT.box (cs := ptT.enc p) rfl rfl rfl fun b1 => ?_)
  refine RG.pv rfl (PV.mvB (.inr rfl) rfl) ?_
  refine RG.nil ?_
  refine WP.seq ?_
  refine WP.region ?_
  refine RG.pv rfl (PV.field rfl Fo49_0 rfl) ?_
  refine RG.pv rfl (PV.load1 rfl Sc2 rfl (Rd.blk rfl)) ?_
  refine RG.callF (vs := [_, _, _]) rfl rfl En141 rfl (within_s ?_)
  refine RG.pv rfl (PV.mvB (.inl rfl) rfl) ?_
  refine RG.gs rfl rfl rfl (fun hp => (PV.field rfl Fo49_1 rfl)) ?_
  refine RG.gs rfl rfl rfl (fun hp => (PV.load1 rfl Sc2 (gs_t hp) (Rd.blk rfl))) ?_
  refine RG.gsC rfl rfl rfl rfl En141 (fun hp => ⟨_, (acons (gs_t hp) (acons rfl (acons rfl anil))), within_s ⟨rfl, rfl, rfl⟩⟩) ?_
  refine RG.pv rfl (PV.pickA rfl rfl (fun hq => gs_t (geqT hq)) rfl) ?_
  refine RG.pv rfl (PV.mvB (.inr rfl) rfl) ?_
  refine RG.nil ?_
  refine WP.ret ?_
  exact ⟨_, _, ResV.one rfl rfl, Cv.p, k⟩
theorem cellB_within {D : List Bool} {x y : Int} : cellB D x y = (within x (-40) 39 && within y (-40) 39 && gd D (0 + (y + 40).toNat * 80 + (x + 40).toNat * 1)) := by
  by_cases h : -40 ≤ x ∧ x < 40 ∧ -40 ≤ y ∧ y < 40
  · rw [cellB_in h, show within x (-40) 39 = true by simp [within]; omega, show within y (-40) 39 = true by simp [within]; omega, Nat.zero_add, Nat.mul_one]; rfl
  · rw [cellB_out h]
    by_cases c : -40 ≤ x ∧ x < 40
    · rw [show within y (-40) 39 = false by simp [within]; omega]; simp
    · rw [show within x (-40) 39 = false by simp [within]; omega]; simp
theorem has_s {b : Nat} {D : List Bool} {x y : Int} (hD : D.length = 6400) (k : R (.bool (cellB D x y)) G (grd b D :: L)) : CallT Tryz.prog 183 #[.pointer (some ⟨b, 0, none⟩), vi x, vi y] G (grd b D :: L) R := by
  rw [cellB_within] at k
  refine CallT.enter (args := _) Tryz.func183 rfl rfl (by kernel_rfl) rfl ?_
  refine WP.seq ?_
  refine WP.region ?_
  refine RG.pv rfl (PV.mvB (.inr rfl) rfl) ?_
  refine RG.nil ?_
  refine WP.seq ?_
  refine WP.region ?_
  refine RG.pv rfl (PV.mvI (.inl rfl) rfl) ?_
  refine RG.pv rfl (PV.mvI (.inl rfl) rfl) ?_
  refine RG.pv rfl (PV.build (vs := [(0, [vi _]), (1, [vi _])]) (out := [_, _]) rfl Zr49 Pl49 ⟨rfl, (Cl.c rfl), ⟨rfl, (Cl.c rfl), trivial⟩⟩ rfl) ?_
  refine RG.callF (vs := [_]) rfl rfl En142 rfl (unitCell_s (p := ⟨x, y⟩) ?_)
  refine RG.pv rfl (PV.mvB (.inl rfl) rfl) ?_
  refine RG.gs rfl rfl rfl (fun hp => (PV.mvP (.inl rfl) rfl)) ?_
  refine RG.gs rfl rfl rfl (fun hp => (PV.mvI (.inl rfl) rfl)) ?_
  refine RG.gs rfl rfl rfl (fun hp => (PV.add rfl (gs_t hp) rfl (by first | omega | (simp [within] at hp; omega)))) ?_
  refine RG.gs rfl rfl rfl (fun hp => (PV.mvI (.inl rfl) rfl)) ?_
  refine RG.gs rfl rfl rfl (fun hp => (PV.add rfl (gs_t hp) rfl (by first | omega | (simp [within] at hp; omega)))) ?_
  refine RG.gs rfl rfl rfl (fun hp => (PV.nilc rfl (gs_t hp))) ?_
  refine RG.gs rfl rfl rfl (fun hp => (PV.idxA (j := (y + 40).toNat) rfl Ia213 (gs_t hp) (gs_t hp) (by first | omega | (simp [within] at hp; omega)) (by first | omega | (simp [within] at hp; omega)))) ?_
  refine RG.gs rfl rfl rfl (fun hp => (PV.idxA (j := (x + 40).toNat) rfl Ia211 (gs_t hp) (gs_t hp) (by first | omega | (simp [within] at hp; omega)) (by first | omega | (simp [within] at hp; omega)))) ?_
  refine RG.gs rfl rfl rfl (fun hp => (PV.loadGr rfl Sc4 (gs_t hp) rfl (by first | omega | (simp [within] at hp; omega)))) ?_
  refine RG.pv rfl (PV.pickA rfl rfl (fun hq => gs_t (geqT hq)) rfl) ?_
  refine RG.pv rfl (PV.mvB (.inr rfl) rfl) ?_
  refine RG.nil ?_
  refine WP.ret ?_
  exact ⟨_, _, ResV.one rfl rfl, Cv.p, k⟩
theorem see_s {b ba bc bp : Nat} {D : List Bool} {x y a n : Int} (hD : D.length = 6400) (ha : 0 ≤ a ∧ a ≤ 1000) (hn : 0 ≤ n ∧ n ≤ 1000) (k : R (.tuple #[]) G (blk ba 2 [vi (a + 1)] :: blk bc 2 [vi (n + one (cellB D x y))] :: blk bp 161 [.pointer (some ⟨b, 0, none⟩)] :: grd b D :: L)) :
    CallT Tryz.prog 182 #[vi x, vi y, .pointer (some ⟨ba, 0, none⟩), .pointer (some ⟨bp, 0, none⟩), .pointer (some ⟨bc, 0, none⟩)] G (blk ba 2 [vi a] :: blk bc 2 [vi n] :: blk bp 161 [.pointer (some ⟨b, 0, none⟩)] :: grd b D :: L) R := by
  refine CallT.enter (args := _) Tryz.func182 rfl rfl (by kernel_rfl) rfl ?_
  refine WP.seq ?_
  refine WP.region ?_
  refine RG.pv rfl (PV.load1 rfl Sc2 rfl (Rd.blk rfl)) ?_
  refine RG.pv rfl (PV.add rfl rfl rfl (by omega)) ?_
  refine RG.ot rfl (OT.storeW (vs := [vi _]) rfl Sz2 rfl rfl (Cl.c rfl) rfl rfl (OneC.c rfl) ?_)
  refine RG.nil ?_
  refine WP.seq ?_
  refine WP.region ?_
  refine RG.pv rfl (PV.load1 rfl Sc161 rfl (Rd.blk rfl)) ?_
  refine RG.pv rfl (PV.mvI (.inl rfl) rfl) ?_
  refine RG.pv rfl (PV.mvI (.inl rfl) rfl) ?_
  refine RG.callF (vs := [_, _, _]) rfl rfl En183 rfl (CallT.exB (has_s hD ?_))
  refine RG.nil ?_
  refine WP.cond rfl (fun h => ?_) (fun h => ?_)
  · rw [h, show one true = 1 from rfl] at k
    refine WP.region ?_
    refine RG.pv rfl (PV.load1 rfl Sc2 rfl (Rd.blk rfl)) ?_
    refine RG.pv rfl (PV.add rfl rfl rfl (by omega)) ?_
    refine RG.ot rfl (OT.storeW (vs := [vi _]) rfl Sz2 rfl rfl (Cl.c rfl) rfl rfl (OneC.c rfl) ?_)
    refine RG.nil ?_
    exact ⟨_, _, ResV.zero rfl, Cv.p, k⟩
  · rw [h, show one false = 0 from rfl, Int.add_zero] at k
    refine WP.skip ?_
    exact ⟨_, _, ResV.zero rfl, Cv.p, k⟩
theorem outer_s {b : Nat} {D : List Bool} {r : Rect} {hz : Bool} (hD : D.length = 6400) (hr : validRect r = true)
    (k : R (.tuple #[vi (bif hz then tV D (r.x0 - 1) r.y0 (hR r) + tV D r.x1 r.y0 (hR r) else tH D (r.y0 - 1) r.x0 (wR r) + tH D r.y1 r.x0 (wR r)), vi (bif hz then 2 * (r.y1 - r.y0) else 2 * (r.x1 - r.x0))]) G (grd b D :: L)) :
    CallT Tryz.prog 119 #[.pointer (some ⟨b, 0, none⟩), vrect r, .bool hz] G (grd b D :: L) R := by
  have hv := validR_iff.1 hr
  have e1 : (wR r : Int) = r.x1 - r.x0 := by simp only [wR]; omega
  have e2 : (hR r : Int) = r.y1 - r.y0 := by simp only [hR]; omega
  refine CallT.enter (args := _) Tryz.func119 rfl rfl (by kernel_rfl) rfl ?_
  refine WP.seq ?_
  refine WP.region ?_
  refine RG.ot rfl (OT.box (cs := [.pointer (some ⟨b, 0, none⟩)]) rfl rfl rfl fun b3 => ?_)
  refine RG.ot rfl (OT.box (cs := rectT.enc r) rfl rfl rfl fun b4 => ?_)
  refine RG.pv rfl (PV.mvI (.inr rfl) rfl) ?_
  refine RG.pv rfl (PV.mvI (.inr rfl) rfl) ?_
  refine RG.nil ?_
  refine WP.seq ?_
  refine WP.region ?_
  refine RG.ot rfl (OT.alloc rfl Zr2 fun b8 => ?_)
  refine RG.ot rfl (OT.alloc rfl Zr2 fun b9 => ?_)
  refine RG.ot rfl (OT.storeW (vs := [vi _]) rfl Sz2 rfl rfl (Cl.c rfl) rfl rfl (OneC.c rfl) ?_)
  refine RG.ot rfl (OT.storeW (vs := [vi _]) rfl Sz2 rfl rfl (Cl.c rfl) rfl rfl (OneC.c rfl) ?_)
  refine RG.nil ?_
  refine WP.seq ?_
  refine WP.region ?_
  refine RG.pv rfl (PV.mkf3 rfl rfl rfl rfl) ?_
  refine RG.pv rfl (PV.mvF (.inr rfl) rfl) ?_
  refine RG.nil ?_
  refine WP.seq ?_
  refine WP.seq ?_
  refine WP.region ?_
  refine RG.pv rfl (PV.mvB (.inl rfl) rfl) ?_
  refine RG.nil ?_
  refine WP.cond rfl (fun hh => ?_) (fun hh => ?_)
  · rw [hh] at k
    simp only [cond_true] at k
    refine WP.seq ?_
    refine WP.region ?_
    refine RG.pv rfl (PV.field rfl Fo61_1 rfl) ?_
    refine RG.pv rfl (PV.load1 rfl Sc2 rfl (Rd.blk rfl)) ?_
    refine RG.pv rfl (PV.mvI (.inr rfl) rfl) ?_
    refine RG.nil ?_
    refine WP.block ?_
    refine WP.cv ((Cv.p (C := blk b9 2 [vi 0] :: blk b8 2 [vi 0] :: blk b3 161 [.pointer (some ⟨b, 0, none⟩)] :: blk b4 61 (rectT.enc r) :: grd b D :: L)).trans (Cv.cast (L' := blk b9 2 [vi (2 * ((0 : Nat) : Int))] :: blk b8 2 [vi (tV D (r.x0 - 1) r.y0 0 + tV D r.x1 r.y0 0)] :: blk b3 161 [.pointer (some ⟨b, 0, none⟩)] :: blk b4 61 (rectT.enc r) :: grd b D :: L) rfl)) ?_
    refine WP.loop2 [4, 8, 9, 10] (fun (i : Nat) (y : Int) => i ≤ hR r ∧ y = r.y0 + i) (fun (i : Nat) (y : Int) => [(11, vi y)]) (fun (i : Nat) (y : Int) => blk b9 2 [vi (2 * (i : Int))] :: blk b8 2 [vi (tV D (r.x0 - 1) r.y0 i + tV D r.x1 r.y0 i)] :: blk b3 161 [.pointer (some ⟨b, 0, none⟩)] :: blk b4 61 (rectT.enc r) :: grd b D :: L) (fun (i : Nat) (y : Int) => hR r - i) 0 r.y0 ⟨by omega, by omega⟩ ⟨rfl, trivial⟩ Cv.p ?_
    rintro i y τ ⟨hi, hy⟩
    refine WP.seq ?_
    refine WP.seq ?_
    refine WP.region ?_
    refine RG.pv rfl (PV.mvI (.inl rfl) rfl) ?_
    refine RG.pv rfl (PV.field rfl Fo61_3 rfl) ?_
    refine RG.pv rfl (PV.load1 rfl Sc2 rfl (Rd.blk rfl)) ?_
    refine RG.pv rfl (PV.lss rfl rfl rfl) ?_
    refine RG.nil ?_
    have b1 := cntF_bd (fun k => cellB D (r.x0 - 1) (r.y0 + k)) i
    have b2 := cntF_bd (fun k => cellB D r.x1 (r.y0 + k)) i
    have b3' : tV D (r.x0 - 1) r.y0 i = cntF (fun k => cellB D (r.x0 - 1) (r.y0 + k)) i := rfl
    have b4' : tV D r.x1 r.y0 i = cntF (fun k => cellB D r.x1 (r.y0 + k)) i := rfl
    refine WP.cond rfl (fun h2 => ?_) (fun h2 => ?_)
    · have h2 := of_decide_eq_true h2
      subst hy
      have c1 : tV D (r.x0 - 1) r.y0 (i + 1) = tV D (r.x0 - 1) r.y0 i + one (cellB D (r.x0 - 1) (r.y0 + i)) := rfl
      have c2 : tV D r.x1 r.y0 (i + 1) = tV D r.x1 r.y0 i + one (cellB D r.x1 (r.y0 + i)) := rfl
      have c3 := one_nn (cellB D (r.x0 - 1) (r.y0 + i))
      have c4 := one_nn (cellB D r.x1 (r.y0 + i))
      refine WP.skip ?_
      refine WP.seq ?_
      refine WP.block ?_
      refine WP.seq ?_
      refine WP.region ?_
      refine RG.pv rfl (PV.mvF (.inl rfl) rfl) ?_
      refine RG.pv rfl (PV.field rfl Fo61_0 rfl) ?_
      refine RG.pv rfl (PV.load1 rfl Sc2 rfl (Rd.blk rfl)) ?_
      refine RG.pv rfl (PV.sub rfl rfl rfl (by omega)) ?_
      refine RG.pv rfl (PV.mvI (.inl rfl) rfl) ?_
      refine RG.callK (vs := [_, _, _, _, _]) rfl rfl rfl En182 rfl (CallT.exB (b := b) (CallT.exB (b := b3) (CallT.exB (b := b8) (CallT.exB (b := b9) (see_s hD (by omega) (by omega) ?_)))))
      refine RG.nil ?_
      refine WP.region ?_
      refine RG.pv rfl (PV.mvF (.inl rfl) rfl) ?_
      refine RG.pv rfl (PV.field rfl Fo61_2 rfl) ?_
      refine RG.pv rfl (PV.load1 rfl Sc2 rfl (Rd.blk rfl)) ?_
      refine RG.pv rfl (PV.mvI (.inl rfl) rfl) ?_
      refine RG.callK (vs := [_, _, _, _, _]) rfl rfl rfl En182 rfl (CallT.exB (b := b) (CallT.exB (b := b3) (CallT.exB (b := b8) (CallT.exB (b := b9) (see_s hD (by omega) (by omega) ?_)))))
      refine RG.nil ?_
      refine WP.region ?_
      refine RG.pv rfl (PV.mvI (.inl rfl) rfl) ?_
      refine RG.pv rfl (PV.add rfl rfl rfl (by omega)) ?_
      refine RG.pv rfl (PV.mvI (.inr rfl) rfl) ?_
      refine RG.nil ?_
      exact ⟨rfl, i + 1, _, ⟨by omega, by omega⟩, ⟨rfl, trivial⟩, ⟨rfl, rfl, rfl, rfl, trivial⟩, ((Cv.blkEq (cs' := [vi (2 * ((i + 1 : Nat) : Int))]) (congrArg (fun z => [vi z]) (by omega))).trans ((Cv.cons (Cv.blkEq (cs' := [vi (tV D (r.x0 - 1) r.y0 (i + 1) + tV D r.x1 r.y0 (i + 1))]) (congrArg (fun z => [vi z]) (by omega)))).trans Cv.p)), by omega⟩
    · have h2 := of_decide_eq_false h2
      obtain rfl : i = hR r := by omega
      rw [← e2] at k
      refine WP.exit ?_
      refine WP.seq ?_
      refine WP.regionQ (by kernel_rfl) (by kernel_rfl) ?_
      refine RQ.pv rfl (PV.load1 rfl Sc2 rfl (Rd.blk rfl)) ?_
      refine RQ.pv rfl (PV.load1 rfl Sc2 rfl (Rd.blk rfl)) ?_
      refine RQ.pv rfl (PV.mvI (.inr rfl) rfl) ?_
      refine RQ.pv rfl (PV.mvI (.inr rfl) rfl) ?_
      refine RQ.nil ?_
      refine WP.ret ?_
      exact ⟨_, _, ResV.two rfl rfl rfl, Cv.p, k⟩
  · rw [hh] at k
    simp only [cond_false] at k
    refine WP.seq ?_
    refine WP.region ?_
    refine RG.pv rfl (PV.field rfl Fo61_0 rfl) ?_
    refine RG.pv rfl (PV.load1 rfl Sc2 rfl (Rd.blk rfl)) ?_
    refine RG.pv rfl (PV.mvI (.inr rfl) rfl) ?_
    refine RG.nil ?_
    refine WP.block ?_
    refine WP.cv ((Cv.p (C := blk b9 2 [vi 0] :: blk b8 2 [vi 0] :: blk b3 161 [.pointer (some ⟨b, 0, none⟩)] :: blk b4 61 (rectT.enc r) :: grd b D :: L)).trans (Cv.cast (L' := blk b9 2 [vi (2 * ((0 : Nat) : Int))] :: blk b8 2 [vi (tH D (r.y0 - 1) r.x0 0 + tH D r.y1 r.x0 0)] :: blk b3 161 [.pointer (some ⟨b, 0, none⟩)] :: blk b4 61 (rectT.enc r) :: grd b D :: L) rfl)) ?_
    refine WP.loop2 [4, 8, 9, 10] (fun (i : Nat) (y : Int) => i ≤ wR r ∧ y = r.x0 + i) (fun (i : Nat) (y : Int) => [(12, vi y)]) (fun (i : Nat) (y : Int) => blk b9 2 [vi (2 * (i : Int))] :: blk b8 2 [vi (tH D (r.y0 - 1) r.x0 i + tH D r.y1 r.x0 i)] :: blk b3 161 [.pointer (some ⟨b, 0, none⟩)] :: blk b4 61 (rectT.enc r) :: grd b D :: L) (fun (i : Nat) (y : Int) => wR r - i) 0 r.x0 ⟨by omega, by omega⟩ ⟨rfl, trivial⟩ Cv.p ?_
    rintro i y τ ⟨hi, hy⟩
    refine WP.seq ?_
    refine WP.seq ?_
    refine WP.region ?_
    refine RG.pv rfl (PV.mvI (.inl rfl) rfl) ?_
    refine RG.pv rfl (PV.field rfl Fo61_2 rfl) ?_
    refine RG.pv rfl (PV.load1 rfl Sc2 rfl (Rd.blk rfl)) ?_
    refine RG.pv rfl (PV.lss rfl rfl rfl) ?_
    refine RG.nil ?_
    have b1 := cntF_bd (fun k => cellB D (r.x0 + k) (r.y0 - 1)) i
    have b2 := cntF_bd (fun k => cellB D (r.x0 + k) r.y1) i
    have b3' : tH D (r.y0 - 1) r.x0 i = cntF (fun k => cellB D (r.x0 + k) (r.y0 - 1)) i := rfl
    have b4' : tH D r.y1 r.x0 i = cntF (fun k => cellB D (r.x0 + k) r.y1) i := rfl
    refine WP.cond rfl (fun h2 => ?_) (fun h2 => ?_)
    · have h2 := of_decide_eq_true h2
      subst hy
      have c1 : tH D (r.y0 - 1) r.x0 (i + 1) = tH D (r.y0 - 1) r.x0 i + one (cellB D (r.x0 + i) (r.y0 - 1)) := rfl
      have c2 : tH D r.y1 r.x0 (i + 1) = tH D r.y1 r.x0 i + one (cellB D (r.x0 + i) r.y1) := rfl
      have c3 := one_nn (cellB D (r.x0 + i) (r.y0 - 1))
      have c4 := one_nn (cellB D (r.x0 + i) r.y1)
      refine WP.skip ?_
      refine WP.seq ?_
      refine WP.block ?_
      refine WP.seq ?_
      refine WP.region ?_
      refine RG.pv rfl (PV.mvF (.inl rfl) rfl) ?_
      refine RG.pv rfl (PV.mvI (.inl rfl) rfl) ?_
      refine RG.pv rfl (PV.field rfl Fo61_1 rfl) ?_
      refine RG.pv rfl (PV.load1 rfl Sc2 rfl (Rd.blk rfl)) ?_
      refine RG.pv rfl (PV.sub rfl rfl rfl (by omega)) ?_
      refine RG.callK (vs := [_, _, _, _, _]) rfl rfl rfl En182 rfl (CallT.exB (b := b) (CallT.exB (b := b3) (CallT.exB (b := b8) (CallT.exB (b := b9) (see_s hD (by omega) (by omega) ?_)))))
      refine RG.nil ?_
      refine WP.region ?_
      refine RG.pv rfl (PV.mvF (.inl rfl) rfl) ?_
      refine RG.pv rfl (PV.mvI (.inl rfl) rfl) ?_
      refine RG.pv rfl (PV.field rfl Fo61_3 rfl) ?_
      refine RG.pv rfl (PV.load1 rfl Sc2 rfl (Rd.blk rfl)) ?_
      refine RG.callK (vs := [_, _, _, _, _]) rfl rfl rfl En182 rfl (CallT.exB (b := b) (CallT.exB (b := b3) (CallT.exB (b := b8) (CallT.exB (b := b9) (see_s hD (by omega) (by omega) ?_)))))
      refine RG.nil ?_
      refine WP.region ?_
      refine RG.pv rfl (PV.mvI (.inl rfl) rfl) ?_
      refine RG.pv rfl (PV.add rfl rfl rfl (by omega)) ?_
      refine RG.pv rfl (PV.mvI (.inr rfl) rfl) ?_
      refine RG.nil ?_
      exact ⟨rfl, i + 1, _, ⟨by omega, by omega⟩, ⟨rfl, trivial⟩, ⟨rfl, rfl, rfl, rfl, trivial⟩, ((Cv.blkEq (cs' := [vi (2 * ((i + 1 : Nat) : Int))]) (congrArg (fun z => [vi z]) (by omega))).trans ((Cv.cons (Cv.blkEq (cs' := [vi (tH D (r.y0 - 1) r.x0 (i + 1) + tH D r.y1 r.x0 (i + 1))]) (congrArg (fun z => [vi z]) (by omega)))).trans Cv.p)), by omega⟩
    · have h2 := of_decide_eq_false h2
      obtain rfl : i = wR r := by omega
      rw [← e1] at k
      refine WP.exit ?_
      refine WP.seq ?_
      refine WP.regionQ (by kernel_rfl) (by kernel_rfl) ?_
      refine RQ.pv rfl (PV.load1 rfl Sc2 rfl (Rd.blk rfl)) ?_
      refine RQ.pv rfl (PV.load1 rfl Sc2 rfl (Rd.blk rfl)) ?_
      refine RQ.pv rfl (PV.mvI (.inr rfl) rfl) ?_
      refine RQ.pv rfl (PV.mvI (.inr rfl) rfl) ?_
      refine RQ.nil ?_
      refine WP.ret ?_
      exact ⟨_, _, ResV.two rfl rfl rfl, Cv.p, k⟩
theorem area_le {r : Rect} (h : validRect r = true) : areaR r ≤ 6400 := (area_bd h).2
theorem covered_s {v : Value} {xs : List Rect} {r : Rect} (h1 : Rs G L rectT v xs) (hl : xs.length ≤ 3200) (k : R (vi (covI xs r)) G L) : CallT Tryz.prog 118 #[v, vrect r] G L R := by
  have hcb : ∀ q, 0 ≤ (if validRect (cmn q r) = true then areaR (cmn q r) else 0) ∧ (if validRect (cmn q r) = true then areaR (cmn q r) else 0) ≤ 6400 := fun q => by
    split
    · rename_i h; exact area_bd h
    · omega
  have hnn : ∀ ys : List Rect, 0 ≤ covI ys r ∧ covI ys r ≤ 6400 * ys.length := fun ys => ⟨costL_nonneg (fun q => (hcb q).1) ys, costL_bd fun q _ => (hcb q).2⟩
  refine CallT.enter (args := _) Tryz.func118 rfl rfl (by kernel_rfl) rfl ?_
  refine WP.seq ?_
  refine WP.region ?_
  refine RG.ot rfl (OT.box (cs := rectT.enc r) rfl rfl rfl fun b3 => ?_)
  refine RG.pv rfl (PV.mvI (.inr rfl) rfl) ?_
  refine RG.nil ?_
  refine WP.seq ?_
  refine WP.region ?_
  refine RG.pv rfl (PV.mvI (.inr rfl) rfl) ?_
  refine RG.nil ?_
  refine WP.seq ?_
  refine WP.seq ?_
  refine WP.region ?_
  refine RG.pv rfl (PV.move (v := v) rfl rfl) ?_
  refine RG.pv rfl (PV.len (v := v) rfl Tryz.underlying56 rfl (SlF.r h1)) ?_
  refine RG.pv rfl (PV.mvI (.inl rfl) rfl) ?_
  refine RG.nil ?_
  refine WP.block ?_
  refine WP.loop2 [3, 9, 10] (fun (i : Nat) (s : Int) => i ≤ xs.length ∧ s = covI (xs.take i) r) (fun (i : Nat) (s : Int) => [(11, vi i), (5, vi s)]) (fun (i : Nat) (s : Int) => blk b3 61 (rectT.enc r) :: L) (fun (i : Nat) (s : Int) => xs.length - i) 0 0 ⟨by omega, by simp [covI, costL]⟩ ⟨rfl, rfl, trivial⟩ Cv.p ?_
  rintro i s τ ⟨hi, hs⟩
  refine WP.seq ?_
  refine WP.region ?_
  refine RG.pv rfl (PV.lss rfl rfl rfl) ?_
  refine RG.nil ?_
  refine WP.seq ?_
  refine WP.cond rfl (fun h2 => ?_) (fun h2 => ?_)
  · have h2 := of_decide_eq_true h2
    have hct := costL_take (fun q => if validRect (cmn q r) = true then areaR (cmn q r) else 0) (xs := xs) (i := i) (by omega)
    have hb := hnn (xs.take i)
    have hlt : (xs.take i).length = i := by simp; omega
    rw [hlt] at hb
    refine WP.skip ?_
    refine WP.seq ?_
    refine WP.block ?_
    refine WP.seq ?_
    refine WP.region ?_
    refine RG.pv rfl (PV.idxS (v := v) rfl Is56 rfl (SlF.r h1) rfl rfl (by omega)) ?_
    refine RG.pv rfl (PV.loadE rfl Ag61 rfl rfl (El.r h1 (getG (by omega)))) ?_
    refine RG.ot rfl (OT.alloc rfl Zr61 fun b7 => ?_)
    refine RG.ot rfl (OT.storeW (vs := [vi _, vi _, vi _, vi _]) rfl Sz61 rfl rfl (Cl.c rfl) rfl rfl (OneC.c rfl) ?_)
    refine RG.nil ?_
    refine WP.seq ?_
    refine WP.region ?_
    refine RG.pv rfl (PV.loadW rfl Ag61 rfl rfl) ?_
    refine RG.pv rfl (PV.loadW rfl Ag61 rfl rfl) ?_
    refine RG.callF (vs := [_, _]) rfl rfl En180 rfl (common_s ?_)
    refine RG.ot rfl (OT.alloc rfl Zr61 fun b8 => ?_)
    refine RG.ot rfl (OT.storeW (vs := [vi _, vi _, vi _, vi _]) rfl Sz61 rfl rfl (Cl.c rfl) rfl rfl (OneC.c rfl) ?_)
    refine RG.nil ?_
    refine WP.seq ?_
    refine WP.region ?_
    refine RG.pv rfl (PV.loadW rfl Ag61 rfl rfl) ?_
    refine RG.callF (vs := [_]) rfl rfl En181 rfl (validRect_s ?_)
    refine RG.nil ?_
    refine WP.cond rfl (fun h3 => ?_) (fun h3 => ?_)
    · have hab := area_bd h3
      rw [if_pos h3] at hct
      refine WP.region ?_
      refine RG.pv rfl (PV.mvI (.inl rfl) rfl) ?_
      refine RG.pv rfl (PV.loadW rfl Ag61 rfl rfl) ?_
      refine RG.callF (vs := [_]) rfl rfl En120 rfl (area_s (by assumption) ?_)
      refine RG.pv rfl (PV.add rfl rfl rfl (by omega)) ?_
      refine RG.pv rfl (PV.mvI (.inr rfl) rfl) ?_
      refine RG.nil ?_
      refine WP.region ?_
      refine RG.pv rfl (PV.add rfl rfl rfl (by omega)) ?_
      refine RG.pv rfl (PV.mvI (.inl rfl) rfl) ?_
      refine RG.nil ?_
      exact ⟨rfl, i + 1, _, ⟨by omega, by rw [hs]; exact hct.symm⟩, ⟨rfl, rfl, trivial⟩, ⟨rfl, rfl, rfl, trivial⟩, Cv.p, by omega⟩
    · rw [if_neg (by simp [h3])] at hct
      refine WP.skip ?_
      refine WP.region ?_
      refine RG.pv rfl (PV.add rfl rfl rfl (by omega)) ?_
      refine RG.pv rfl (PV.mvI (.inl rfl) rfl) ?_
      refine RG.nil ?_
      exact ⟨rfl, i + 1, _, ⟨by omega, by rw [hs]; simp only [covI]; omega⟩, ⟨rfl, rfl, trivial⟩, ⟨rfl, rfl, rfl, trivial⟩, Cv.p, by omega⟩
  · have h2 := of_decide_eq_false h2
    have e : covI xs r = s := by rw [hs, List.take_of_length_le (by omega)]
    rw [e] at k
    refine WP.exit ?_
    refine WP.seq ?_
    refine WP.region ?_
    refine RG.pv rfl (PV.mvI (.inl rfl) rfl) ?_
    refine RG.pv rfl (PV.mvI (.inr rfl) rfl) ?_
    refine RG.nil ?_
    refine WP.ret ?_
    exact ⟨_, _, ResV.one rfl rfl, Cv.p, k⟩
theorem Cv.bagSub {α : Type} {e : TypeId} {F : FT α} {xs ys : List (Sl α)} {L : List Ch} (h : ys.Sublist xs) : Cv (bagS e F xs :: L) (bagS e F ys :: L) := by
  refine Cv.imp fun hp s => ?_
  have key : ∀ {A B : List Ch}, A.Sublist B → ∀ hp, Sep B hp → Sep A hp := fun h => by
    induction h with
    | slnil => exact fun _ h => h
    | cons a _ ih => exact fun hp ⟨h1, h2, d, l1, l2, c, s⟩ => (ih h2 s).up l2
    | cons_cons a _ ih => exact fun hp ⟨h1, h2, d, l1, l2, c, s⟩ => ⟨h1, h2, d, l1, l2, c, ih h2 s⟩
  exact key (h.map (ownS e F)) hp s
theorem conductors_b {v : Value} {xs : List (Sl Rect)} (h1 : Rs G L slT v xs) (hd : RsE G L rectT xs) (hlay : isLay (er xs) = true) (k : ∀ v' ys, er ys = (condB (er xs)).map canon → ys.length = 4 → R v' G (osl 56 slT v' ys :: bagS 61 rectT ys :: L)) : CallT Tryz.prog 115 #[v] G L R := by
  have h8 : xs.length = 8 := by have := isLay_len hlay; rwa [er_len] at this
  have hreg : ∀ i, i < 8 → isReg (gd xs i).xs = true := fun i hi => by rw [← er_gd]; exact isLay_reg hlay hi
  refine conductors_s h1 hd h8 (fun i hi => by have := isReg_len (hreg i hi); omega) fun v' ys he => ?_
  have e : er ys = (condB (er xs)).map canon := by
    rw [he, ← er_gd, ← er_gd, ← er_gd, ← er_gd, ← condR_eq hlay, condR, hlay]; rfl
  exact k v' ys e (by have := congrArg List.length e; rw [er_len] at this; exact this)
theorem cond_dif {l : List (List Rect)} {ys : List (Sl Rect)} (h : er ys = (condB l).map canon) : bits (gd ys 0).xs = difC l := by
  rw [← er_gd, h, gd_map _ (by simp [condB])]
  exact bits_canon (difC_len l)
theorem bits_op {f : Bool → Bool → Bool} {a b : List Rect} (ha : isReg a = true) (hb : isReg b = true) : bits (opR f a b) = zipB f (bits a) (bits b) := by
  rw [opR, ha, hb]; exact bits_canon (zipB_len (bits_length _) (bits_length _))
theorem channelsOf_s {v : Value} {xs : List (Sl Rect)} (h1 : Rs G L slT v xs) (hd : RsE G L rectT xs) (hlay : isLay (er xs) = true) (k : ∀ v u cs zs, cs = chans (er xs) → er zs = malf (er xs) → R (.tuple #[v, u]) G (osl 110 chanT v cs :: osl 56 slT u zs :: bagS 61 rectT zs :: L)) : CallT Tryz.prog 69 #[v] G L R := by
  have h8 : xs.length = 8 := by have := isLay_len hlay; rwa [er_len] at this
  have hreg : ∀ i, i < 8 → isReg (gd xs i).xs = true := fun i hi => by rw [← er_gd]; exact isLay_reg hlay hi
  refine CallT.enter (args := _) Tryz.func69 rfl rfl (by kernel_rfl) rfl ?_
  refine WP.seq ?_
  refine WP.region ?_
  refine RG.pv rfl (PV.asg rfl rfl) ?_
  refine RG.pv rfl (PV.asg rfl rfl) ?_
  refine RG.nil ?_
  refine WP.seq ?_
  refine WP.region ?_
  refine RG.ot rfl (OT.bslice (F := chanT) (els := []) rfl El106 rfl (by decide) rfl (by decide) trivial fun v18 => ?_)
  refine RG.ot rfl (OT.bslice (F := (slT (α := Rect))) (els := []) rfl El29 rfl (by decide) rfl (by decide) trivial fun v19 => ?_)
  refine RG.pv rfl (PV.asg (v := v18) rfl rfl) ?_
  refine RG.pv rfl (PV.asg (v := v19) rfl rfl) ?_
  refine RG.nil ?_
  refine WP.seq ?_
  refine WP.region ?_
  refine RG.pv rfl (PV.move (v := v) rfl rfl) ?_
  refine RG.callF (vs := [v]) rfl rfl En115 rfl (conductors_b (Rs.up h1) hd.up hlay (fun v21 ysv21 hev21 hlv21 => ?_))
  refine RG.pv rfl (PV.idxS (j := 0) (v := v21) rfl Is29 rfl SlF.o rfl (by omega) (by omega)) ?_
  refine RG.pv rfl (PV.loadE1 rfl Sc56 rfl rfl (El.o (getG (by omega))) rfl) ?_
  refine RG.callF (vs := [_]) rfl rfl En114 rfl (cellsOf_s (Rs.inBag (xs := ysv21) 0 (by omega)) (fun b24 => ?_))
  refine RG.pv rfl (PV.asg rfl rfl) ?_
  refine RG.nil ?_
  refine WP.seq ?_
  refine WP.seq ?_
  refine WP.region ?_
  refine RG.pv rfl (PV.move (v := v) rfl rfl) ?_
  refine RG.callF (vs := [v]) rfl rfl En117 rfl (channelRegion_s (Rs.up h1) hd.up h8 (fun v26 => ?_))
  refine RG.callF (vs := [v26]) rfl rfl En116 rfl (components_s Rs.o (fun v27 zsv27 hzv27 => ?_))
  refine RG.pv rfl (PV.len (v := v27) rfl Tryz.underlying29 rfl SlF.o) ?_
  refine RG.pv rfl (PV.mvI (.inl rfl) rfl) ?_
  refine RG.nil ?_
  refine WP.block ?_
  have hpc : er zsv27 = partsC (er xs) := by
    rw [hzv27, bits_op (hreg 0 (by omega)) (hreg 1 (by omega)), partsC, regC, er_gd, er_gd]
  have hzl := parts_len hzv27
  have hpm : ∀ i, i < zsv27.length → 0 < (gd zsv27 i).xs.length ∧ isReg (gd zsv27 i).xs = true := fun i hi => by
    refine partsC_ne (l := er xs) ?_
    rw [← hpc, ← er_gd]; exact gd_mem (by rw [er_len]; exact hi)
  have hzr : ∀ i, i < zsv27.length → Rs G (bagS 61 rectT zsv27 :: L) rectT (gd zsv27 i).v (gd zsv27 i).xs := fun i hi => Rs.inBag (L := bagS 61 rectT zsv27 :: L) (L' := L) (e := 61) i hi
  refine WP.cv ((Cv.p (C := osl 110 chanT v18 ([] : List Chan) :: osl 56 slT v19 ([] : List (Sl Rect)) :: osl 56 slT v27 zsv27 :: bagS 61 rectT zsv27 :: grd b24 (bits (gd ysv21 0).xs) :: L)).trans (Cv.cast (L' := osl 110 chanT v18 ((((er zsv27).take 0).filter (isCh (er xs))).map (mkCh (er xs))) :: osl 56 slT v19 ((zsv27.take 0).filter fun s => !isCh (er xs) s.xs) :: osl 56 slT v27 zsv27 :: bagS 61 rectT zsv27 :: grd b24 (difC (er xs)) :: L) (by rw [cond_dif hev21]; rfl))) ?_
  refine WP.loop3 [0, 6, 27, 28] (fun (i : Nat) (q1 q2 : Value) => i ≤ zsv27.length) (fun (i : Nat) (q1 q2 : Value) => [(29, vi i), (4, q1), (5, q2)]) (fun (i : Nat) (q1 q2 : Value) => osl 110 chanT q1 ((((er zsv27).take i).filter (isCh (er xs))).map (mkCh (er xs))) :: osl 56 slT q2 ((zsv27.take i).filter fun s => !isCh (er xs) s.xs) :: osl 56 slT v27 zsv27 :: bagS 61 rectT zsv27 :: grd b24 (difC (er xs)) :: L) (fun (i : Nat) (q1 q2 : Value) => zsv27.length - i) 0 v18 v19 (by omega) ⟨rfl, rfl, rfl, trivial⟩ Cv.p ?_
  rintro i q1 q2 τ hi
  refine WP.seq ?_
  refine WP.region ?_
  refine RG.pv rfl (PV.lss rfl rfl rfl) ?_
  refine RG.nil ?_
  refine WP.seq ?_
  have hfl1 := List.length_filter_le (isCh (er xs)) ((er zsv27).take i)
  have hfl2 := List.length_filter_le (fun s : Sl Rect => !isCh (er xs) s.xs) (zsv27.take i)
  have hfl3 : ((er zsv27).take i).length ≤ zsv27.length := by rw [List.length_take, er_len]; omega
  have hfl4 : (zsv27.take i).length ≤ zsv27.length := by rw [List.length_take]; omega
  have hfl5 : ((((er zsv27).take i).filter (isCh (er xs))).map (mkCh (er xs))).length ≤ 6400 := by rw [List.length_map]; omega
  have hfl6 : ((zsv27.take i).filter fun s => !isCh (er xs) s.xs).length ≤ 6400 := by omega
  refine WP.cond rfl (fun h2 => ?_) (fun h2 => ?_)
  · have h2 := of_decide_eq_true h2
    have h3 : i < zsv27.length := by omega
    obtain ⟨hg0, hgr⟩ := hpm i h3
    have hbv := valid_first hg0 hgr
    have hcov : covI (gd xs 6).xs (gd (gd zsv27 i).xs 0) = covC (er xs) (gd zsv27 i).xs := by rw [cov_eq (hreg 6 (by omega)) hbv, covC, er_gd]
    have htk : (er zsv27).take (i + 1) = (er zsv27).take i ++ [(gd zsv27 i).xs] := by rw [List.take_add_one, getG (by rw [er_len]; exact h3), er_gd]; rfl
    have htk2 : zsv27.take (i + 1) = zsv27.take i ++ [gd zsv27 i] := by rw [List.take_add_one, getG h3]; rfl
    refine WP.skip ?_
    refine WP.seq ?_
    refine WP.block ?_
    refine WP.seq ?_
    refine WP.region ?_
    refine RG.pv rfl (PV.idxS (v := v27) rfl Is29 rfl SlF.o rfl rfl (by omega)) ?_
    refine RG.pv rfl (PV.loadE1 rfl Sc56 rfl rfl (El.o (getG (by omega))) rfl) ?_
    refine RG.pv rfl (PV.asg rfl rfl) ?_
    refine RG.nil ?_
    refine WP.seq ?_
    refine WP.region ?_
    refine RG.pv rfl (PV.move rfl rfl) ?_
    refine RG.pv rfl (PV.idxS (j := 0) rfl Is56 rfl (SlF.r (hzr i h3)) rfl (by omega) (by omega)) ?_
    refine RG.pv rfl (PV.loadE rfl Ag61 rfl rfl (El.r (hzr i h3) (getG (by omega)))) ?_
    refine RG.ot rfl (OT.alloc rfl Zr61 fun b9 => ?_)
    refine RG.ot rfl (OT.storeW (vs := [vi _, vi _, vi _, vi _]) rfl Sz61 rfl rfl (Cl.c rfl) rfl rfl (OneC.c rfl) ?_)
    refine RG.nil ?_
    refine WP.seq ?_
    refine WP.regionQ (by kernel_rfl) (by kernel_rfl) ?_
    refine RQ.pv rfl (PV.move (v := v) rfl rfl) ?_
    refine RQ.pv rfl (PV.idxS (j := 6) (v := v) rfl Is29 rfl (SlF.r h1) rfl (by omega) (by omega)) ?_
    refine RQ.pv rfl (PV.loadE1 rfl Sc56 rfl rfl (El.r h1 (getG (by omega))) rfl) ?_
    refine RQ.pv rfl (PV.loadW rfl Ag61 rfl rfl) ?_
    refine RQ.callF (vs := [_, _]) rfl rfl En118 rfl (covered_s (Rs.up (hd 6 (by omega))) (isReg_len (hreg 6 (by omega))) ⟨rfl, rfl, rfl⟩) ?_
    refine RQ.pv rfl (PV.mvI (.inr rfl) rfl) ?_
    refine RQ.nil ?_
    refine WP.seq ?_
    refine WP.region ?_
    refine RG.pv rfl (PV.move rfl rfl) ?_
    refine RG.pv rfl (PV.loadW rfl Ag61 rfl rfl) ?_
    refine RG.callF (vs := [_, _, _]) rfl rfl En119 rfl (CallT.exB (b := b24) (outer_s (D := difC (er xs)) (difC_len _) hbv ?_))
    refine RG.pv rfl (PV.move (v := .tuple _) rfl rfl) ?_
    refine RG.pv rfl (PV.ext rfl rfl rfl) ?_
    refine RG.pv rfl (PV.ext rfl rfl rfl) ?_
    refine RG.pv rfl (PV.mvI (.inr rfl) rfl) ?_
    refine RG.pv rfl (PV.mvI (.inr rfl) rfl) ?_
    refine RG.nil ?_
    refine WP.seq ?_
    refine WP.region ?_
    refine RG.pv rfl (PV.move rfl rfl) ?_
    refine RG.pv rfl (PV.loadW rfl Ag61 rfl rfl) ?_
    refine RG.callF (vs := [_, _, _]) rfl rfl En119 rfl (CallT.exB (b := b24) (outer_s (D := difC (er xs)) (difC_len _) hbv ?_))
    refine RG.pv rfl (PV.move (v := .tuple _) rfl rfl) ?_
    refine RG.pv rfl (PV.ext rfl rfl rfl) ?_
    refine RG.pv rfl (PV.ext rfl rfl rfl) ?_
    refine RG.pv rfl (PV.mvI (.inr rfl) rfl) ?_
    refine RG.pv rfl (PV.mvI (.inr rfl) rfl) ?_
    refine RG.nil ?_
    refine WP.seq ?_
    refine WP.region ?_
    refine RG.pv rfl (PV.mvI (.inl rfl) rfl) ?_
    refine RG.pv rfl (PV.mvI (.inl rfl) rfl) ?_
    refine RG.pv rfl (PV.eql rfl rfl rfl) ?_
    refine RG.pv rfl (PV.mvB (.inl rfl) rfl) ?_
    refine RG.gs rfl rfl rfl (fun hp => (PV.mvI (.inl rfl) rfl)) ?_
    refine RG.gs rfl rfl rfl (fun hp => (PV.eql rfl (gs_t hp) rfl)) ?_
    refine RG.pv rfl (PV.pickA rfl rfl (fun hq => gs_t (geqT hq)) rfl) ?_
    refine RG.pv rfl (PV.mvB (.inr rfl) rfl) ?_
    refine RG.nil ?_
    refine WP.seq ?_
    refine WP.region ?_
    refine RG.pv rfl (PV.mvI (.inl rfl) rfl) ?_
    refine RG.pv rfl (PV.mvI (.inl rfl) rfl) ?_
    refine RG.pv rfl (PV.eql rfl rfl rfl) ?_
    refine RG.pv rfl (PV.mvB (.inl rfl) rfl) ?_
    refine RG.gs rfl rfl rfl (fun hp => (PV.mvI (.inl rfl) rfl)) ?_
    refine RG.gs rfl rfl rfl (fun hp => (PV.eql rfl (gs_t hp) rfl)) ?_
    refine RG.pv rfl (PV.pickA rfl rfl (fun hq => gs_t (geqT hq)) rfl) ?_
    refine RG.pv rfl (PV.mvB (.inr rfl) rfl) ?_
    refine RG.nil ?_
    refine WP.seq ?_
    refine WP.seq ?_
    refine WP.region ?_
    refine RG.pv rfl (PV.move rfl rfl) ?_
    refine RG.pv rfl (PV.len rfl Tryz.underlying56 rfl (SlF.r (hzr i h3))) ?_
    refine RG.pv rfl (PV.gtr rfl rfl rfl) ?_
    refine RG.pv rfl (PV.mvB (.inl rfl) rfl) ?_
    refine RG.gs rfl rfl rfl (fun hp => (PV.mvB (.inl rfl) rfl)) ?_
    refine RG.gs rfl rfl rfl (fun hp => (PV.not rfl (gs_t hp))) ?_
    refine RG.gs rfl rfl rfl (fun hp => (PV.mvB (.inl rfl) (gs_t hp))) ?_
    refine RG.gs2 rfl rfl rfl (fun hp => (PV.mvB (.inl rfl) rfl)) ?_
    refine RG.gs2 rfl rfl rfl (fun hp => (PV.not rfl (gs_t hp))) ?_
    refine RG.gs rfl rfl rfl (fun hp => (PV.pickA rfl (gs_t hp) (fun hq => gs_t (gandT hp hq)) rfl)) ?_
    refine RG.pv rfl (PV.pickO rfl rfl rfl (fun hq => gs_t (geqF hq))) ?_
    refine RG.pv rfl (PV.mvB (.inl rfl) rfl) ?_
    refine RG.gs rfl rfl rfl (fun hp => (PV.mvI (.inl rfl) rfl)) ?_
    refine RG.gs rfl rfl rfl (fun hp => (PV.neq rfl (gs_t hp) rfl)) ?_
    refine RG.gs rfl rfl rfl (fun hp => (PV.mvB (.inl rfl) (gs_t hp))) ?_
    refine RG.gs2 rfl rfl rfl (fun hp => (PV.mvI (.inl rfl) rfl)) ?_
    refine RG.gs2 rfl rfl rfl (fun hp => (PV.loadW rfl Ag61 rfl rfl)) ?_
    refine RG.gsC2 rfl rfl rfl rfl En120 (fun hp => ⟨_, (acons (gs_t hp) anil), area_s hbv ⟨rfl, rfl, rfl⟩⟩) ?_
    refine RG.gs2 rfl rfl rfl (fun hp => (PV.neq rfl (gs_t hp) (gs_t hp))) ?_
    refine RG.gs rfl rfl rfl (fun hp => (PV.pickA rfl (gs_t hp) (fun hq => gs_t (gandT hp hq)) rfl)) ?_
    refine RG.pv rfl (PV.pickO rfl rfl rfl (fun hq => gs_t (geqF hq))) ?_
    refine RG.nil ?_
    rw [hcov]
    refine WP.cond rfl (fun h9 => ?_) (fun h9 => ?_)
    · have hic : isCh (er xs) (gd zsv27 i).xs = false := by
        have := (chan_cond (l := er xs) hg0 hgr).symm.trans h9
        simpa using this
      refine WP.seq ?_
      refine WP.region ?_
      refine RG.pv rfl (PV.move (v := q2) rfl rfl) ?_
      refine RG.pv rfl (PV.move rfl rfl) ?_
      refine RG.ot rfl (OT.bslice (F := (slT (α := Rect))) (els := [gd zsv27 i]) rfl El29 rfl (by decide) rfl (by decide) ⟨rfl, (Cl.s (SlF.r (hzr i h3))), trivial⟩ fun v90 => ?_)
      refine RG.ot rfl (OT.append (v := q2) (u := v90) (F := (slT (α := Rect))) rfl El29 rfl (by decide) rfl rfl Rs.o (OneL.one (OneC.sl (SlF.r (hzr i h3)) OneC.nil)) rfl (by first | omega | (simp <;> omega)) fun v91 => ?_)
      refine RG.pv rfl (PV.asg (v := v91) rfl rfl) ?_
      refine RG.nil ?_
      refine WP.exit ?_
      refine WP.region ?_
      refine RG.pv rfl (PV.add rfl rfl rfl (by omega)) ?_
      refine RG.pv rfl (PV.mvI (.inl rfl) rfl) ?_
      refine RG.nil ?_
      exact ⟨rfl, i + 1, q1, v91, (by omega), ⟨rfl, rfl, rfl, trivial⟩, ⟨rfl, rfl, rfl, rfl, trivial⟩, ((Cv.p (C := osl 56 slT v91 (((zsv27.take i).filter fun s => !isCh (er xs) s.xs) ++ [gd zsv27 i]) :: osl 110 chanT q1 ((((er zsv27).take i).filter (isCh (er xs))).map (mkCh (er xs))) :: osl 56 slT v27 zsv27 :: bagS 61 rectT zsv27 :: grd b24 (difC (er xs)) :: L)).trans ((Cv.cast (by rw [htk, htk2, List.filter_append, List.filter_append]; simp [hic])).trans (Cv.swap (A := [osl 56 slT v91 ((zsv27.take (i + 1)).filter fun s => !isCh (er xs) s.xs)]) (B := [osl 110 chanT q1 ((((er zsv27).take (i + 1)).filter (isCh (er xs))).map (mkCh (er xs)))])))), by omega⟩
    · have hic : isCh (er xs) (gd zsv27 i).xs = true := by
        have := (chan_cond (l := er xs) hg0 hgr).symm.trans h9
        simpa using this
      obtain ⟨c1, c2, c3, c4⟩ := chan_kind hg0 hgr hic
      refine WP.skip ?_
      refine WP.seq ?_
      refine WP.region ?_
      refine RG.pv rfl (PV.loadW rfl Ag61 rfl rfl) ?_
      refine RG.pv rfl (PV.mvB (.inl rfl) rfl) ?_
      refine RG.pv rfl (PV.build (vs := [(0, [vi _, vi _, vi _, vi _]), (1, [vi _]), (2, [.bool _])]) (out := [_, _, _, _, _, _]) rfl Zr110 Pl110 ⟨rfl, (Cl.c rfl), ⟨rfl, (Cl.c rfl), ⟨rfl, (Cl.c rfl), trivial⟩⟩⟩ rfl) ?_
      refine RG.ot rfl (OT.alloc rfl Zr110 fun b17 => ?_)
      refine RG.ot rfl (OT.storeW (vs := [vi _, vi _, vi _, vi _, vi _, .bool _]) rfl Sz110 rfl rfl (Cl.c rfl) rfl rfl (OneC.c rfl) ?_)
      refine RG.nil ?_
      refine WP.cut1 [0, 4, 5, 6, 17, 27, 28, 29] (fun (kd : Int) => kd = chK (er xs) (gd zsv27 i).xs) (fun (kd : Int) => []) (fun (kd : Int) => blk b17 110 (chanT.enc ⟨gd (gd zsv27 i).xs 0, kd, horC (er xs) (gd zsv27 i).xs⟩) :: osl 110 chanT q1 ((((er zsv27).take i).filter (isCh (er xs))).map (mkCh (er xs))) :: osl 56 slT q2 ((zsv27.take i).filter fun s => !isCh (er xs) s.xs) :: osl 56 slT v27 zsv27 :: bagS 61 rectT zsv27 :: grd b24 (difC (er xs)) :: L) ?_ ?_
      refine WP.seq ?_
      refine WP.region ?_
      refine RG.pv rfl (PV.mvI (.inl rfl) rfl) ?_
      refine RG.pv rfl (PV.gtr rfl rfl rfl) ?_
      refine RG.nil ?_
      · refine WP.cond rfl (fun h10 => ?_) (fun h10 => ?_)
        · have h10 := of_decide_eq_true h10
          refine WP.region ?_
          refine RG.pv rfl (PV.field rfl Fo110_1 rfl) ?_
          refine RG.ot rfl (OT.storeB (vs := [vi _]) (cs' := [_, _, _, _, _, _]) rfl Sz2 rfl rfl (Cl.c rfl) rfl (OneC.c rfl) rfl rfl ?_)
          refine RG.nil ?_
          exact ⟨rfl, 1, (by rw [← c3, if_pos h10]), trivial, ⟨rfl, rfl, rfl, rfl, rfl, rfl, rfl, rfl, trivial⟩, ((Cv.blkEq (cs' := chanT.enc ⟨gd (gd zsv27 i).xs 0, 1, horC (er xs) (gd zsv27 i).xs⟩) rfl).trans Cv.p)⟩
        · have h10 := of_decide_eq_false h10
          refine WP.skip ?_
          exact ⟨rfl, 0, (by rw [← c3, if_neg (by omega)]), trivial, ⟨rfl, rfl, rfl, rfl, rfl, rfl, rfl, rfl, trivial⟩, ((Cv.blkEq (cs' := chanT.enc ⟨gd (gd zsv27 i).xs 0, 0, horC (er xs) (gd zsv27 i).xs⟩) rfl).trans Cv.p)⟩
      rintro kd τ1 hkd
      refine WP.region ?_
      refine RG.pv rfl (PV.move (v := q1) rfl rfl) ?_
      refine RG.pv rfl (PV.loadW rfl Ag110 rfl rfl) ?_
      refine RG.ot rfl (OT.bslice (F := chanT) (els := [⟨_, _, _⟩]) rfl El106 rfl (by decide) rfl (by decide) ⟨rfl, (Cl.c rfl), trivial⟩ fun v100 => ?_)
      refine RG.ot rfl (OT.append (v := q1) (u := v100) (F := chanT) rfl El106 rfl (by decide) rfl rfl Rs.o (OneL.c (fun _ => rfl)) rfl (by first | omega | (simp <;> omega)) fun v101 => ?_)
      refine RG.pv rfl (PV.asg (v := v101) rfl rfl) ?_
      refine RG.nil ?_
      refine WP.region ?_
      refine RG.pv rfl (PV.add rfl rfl rfl (by omega)) ?_
      refine RG.pv rfl (PV.mvI (.inl rfl) rfl) ?_
      refine RG.nil ?_
      have hmk : (⟨gd (gd zsv27 i).xs 0, kd, horC (er xs) (gd zsv27 i).xs⟩ : Chan) = mkCh (er xs) (gd zsv27 i).xs := by rw [mkCh, hkd, c2]
      exact ⟨rfl, i + 1, v101, q2, (by omega), ⟨rfl, rfl, rfl, trivial⟩, ⟨rfl, rfl, rfl, rfl, trivial⟩, ((Cv.p (C := osl 110 chanT v101 ((((er zsv27).take i).filter (isCh (er xs))).map (mkCh (er xs)) ++ [⟨gd (gd zsv27 i).xs 0, kd, horC (er xs) (gd zsv27 i).xs⟩]) :: osl 56 slT q2 ((zsv27.take i).filter fun s => !isCh (er xs) s.xs) :: osl 56 slT v27 zsv27 :: bagS 61 rectT zsv27 :: grd b24 (difC (er xs)) :: L)).trans (Cv.cast (by rw [htk, htk2, List.filter_append, List.filter_append, hmk]; simp [hic]))), by omega⟩
  · have h2 := of_decide_eq_false h2
    obtain rfl : i = zsv27.length := by omega
    have e1 : (((er zsv27).take zsv27.length).filter (isCh (er xs))).map (mkCh (er xs)) = chans (er xs) := by rw [List.take_of_length_le (by rw [er_len]; exact Nat.le_refl _), hpc]; rfl
    have e2 : er ((zsv27.take zsv27.length).filter fun s => !isCh (er xs) s.xs) = malf (er xs) := by
      rw [List.take_of_length_le (Nat.le_refl _), malf, ← hpc]
      simp only [er, List.filter_map]; rfl
    refine WP.exit ?_
    refine WP.seq ?_
    refine WP.region ?_
    refine RG.pv rfl (PV.move (v := q1) rfl rfl) ?_
    refine RG.pv rfl (PV.move (v := q2) rfl rfl) ?_
    refine RG.pv rfl (PV.asg (v := q1) rfl rfl) ?_
    refine RG.pv rfl (PV.asg (v := q2) rfl rfl) ?_
    refine RG.nil ?_
    refine WP.ret ?_
    exact ⟨_, _, ResV.two rfl rfl rfl, ((Cv.p (C := bagS 61 rectT zsv27 :: osl 110 chanT q1 ((((er zsv27).take zsv27.length).filter (isCh (er xs))).map (mkCh (er xs))) :: osl 56 slT q2 ((zsv27.take zsv27.length).filter fun s => !isCh (er xs) s.xs) :: L)).trans ((Cv.bagSub (ys := (zsv27.take zsv27.length).filter fun s => !isCh (er xs) s.xs) (by rw [List.take_of_length_le (Nat.le_refl _)]; exact List.filter_sublist)).trans Cv.p)), k q1 q2 _ _ e1 e2⟩
end Go.Proofs.YtmomfgfmnpblpaaGreat
namespace Go.Proofs.YtmomfgfmnpblpaaGreat
set_option linter.unusedVariables false
set_option linter.unusedSimpArgs false
open Go
set_option maxRecDepth 20000
set_option linter.unusedSimpArgs false
variable {G : Gh} {L : List Ch} {R : Value → Gh → List Ch → Prop}
def tch (D : List Bool) (r : Rect) (s : Int) : Int := if s < 2 then tV D (gd [r.x0 - 1, r.x1] s.toNat) r.y0 (hR r) else tH D (gd [r.y0 - 1, r.y1] (s - 2).toNat) r.x0 (wR r)
theorem l17Cell_d {v : Value} {S : List Bool} {x y : Int} (h1 : Rs G L boolT v S) (hS : S.length = 6400) (k : R (.bool (cellB S x y)) G L) : CallT Tryz.prog 88 #[v, vi x, vi y] G L R := l17Cell_s h1 hS k
theorem touch_s {v : Value} {D : List Bool} {r : Rect} {s : Int} (h1 : Rs G L boolT v D) (hD : D.length = 6400) (hr : validRect r = true) (hs : 0 ≤ s ∧ s < 4) (k : R (vi (tch D r s)) G L) : CallT Tryz.prog 212 #[v, vrect r, vi s] G L R := by
  have hv := validR_iff.1 hr
  have e1 : (wR r : Int) = r.x1 - r.x0 := by simp only [wR]; omega
  have e2 : (hR r : Int) = r.y1 - r.y0 := by simp only [hR]; omega
  have hl2 : ([r.x0 - 1, r.x1] : List Int).length = 2 := rfl
  have hl3 : ([r.y0 - 1, r.y1] : List Int).length = 2 := rfl
  refine CallT.enter (args := _) Tryz.func212 rfl rfl (by kernel_rfl) rfl ?_
  refine WP.seq ?_
  refine WP.region ?_
  refine RG.ot rfl (OT.box (cs := rectT.enc r) rfl rfl rfl fun b4 => ?_)
  refine RG.pv rfl (PV.mvI (.inr rfl) rfl) ?_
  refine RG.nil ?_
  refine WP.seq ?_
  refine WP.region ?_
  refine RG.pv rfl (PV.mvI (.inr rfl) rfl) ?_
  refine RG.nil ?_
  refine WP.seq ?_
  refine WP.seq ?_
  refine WP.region ?_
  refine RG.pv rfl (PV.field rfl Fo61_1 rfl) ?_
  refine RG.pv rfl (PV.load1 rfl Sc2 rfl (Rd.blk rfl)) ?_
  refine RG.pv rfl (PV.mvI (.inr rfl) rfl) ?_
  refine RG.nil ?_
  refine WP.block ?_
  refine WP.loop3 [0, 2, 4] (fun (i : Nat) (y n : Int) => i ≤ hR r ∧ y = r.y0 + i ∧ n = tV D (gd [r.x0 - 1, r.x1] s.toNat) r.y0 i ∧ (i = 0 ∨ s < 2)) (fun (i : Nat) (y n : Int) => [(8, vi y), (7, vi n)]) (fun (i : Nat) (y n : Int) => blk b4 61 (rectT.enc r) :: L) (fun (i : Nat) (y n : Int) => hR r - i) 0 r.y0 0 ⟨by omega, by omega, rfl, .inl rfl⟩ ⟨rfl, rfl, trivial⟩ Cv.p ?_
  rintro i y n τ ⟨hi, hy, hn, hz⟩
  refine WP.seq ?_
  refine WP.seq ?_
  refine WP.region ?_
  refine RG.pv rfl (PV.mvI (.inl rfl) rfl) ?_
  refine RG.pv rfl (PV.field rfl Fo61_3 rfl) ?_
  refine RG.pv rfl (PV.load1 rfl Sc2 rfl (Rd.blk rfl)) ?_
  refine RG.pv rfl (PV.lss rfl rfl rfl) ?_
  refine RG.pv rfl (PV.mvB (.inl rfl) rfl) ?_
  refine RG.gs rfl rfl rfl (fun hp => (PV.mvI (.inl rfl) rfl)) ?_
  refine RG.gs rfl rfl rfl (fun hp => (PV.lss rfl (gs_t hp) rfl)) ?_
  refine RG.pv rfl (PV.pickA rfl rfl (fun hq => gs_t (geqT hq)) rfl) ?_
  refine RG.nil ?_
  have b1 := cntF_bd (fun k => cellB D (gd [r.x0 - 1, r.x1] s.toNat) (r.y0 + k)) i
  have b2 : tV D (gd [r.x0 - 1, r.x1] s.toNat) r.y0 i = cntF (fun k => cellB D (gd [r.x0 - 1, r.x1] s.toNat) (r.y0 + k)) i := rfl
  refine WP.cond rfl (fun h2 => ?_) (fun h2 => ?_)
  · have h2' : y < r.y1 ∧ s < 2 := by simpa using h2
    subst hy
    have c1 : tV D (gd [r.x0 - 1, r.x1] s.toNat) r.y0 (i + 1) = tV D (gd [r.x0 - 1, r.x1] s.toNat) r.y0 i + one (cellB D (gd [r.x0 - 1, r.x1] s.toNat) (r.y0 + i)) := rfl
    refine WP.skip ?_
    refine WP.seq ?_
    refine WP.block ?_
    refine WP.seq ?_
    refine WP.region ?_
    refine RG.pv rfl (PV.move (v := v) rfl rfl) ?_
    refine RG.pv rfl (PV.field rfl Fo61_0 rfl) ?_
    refine RG.pv rfl (PV.load1 rfl Sc2 rfl (Rd.blk rfl)) ?_
    refine RG.pv rfl (PV.sub rfl rfl rfl (by omega)) ?_
    refine RG.pv rfl (PV.field rfl Fo61_2 rfl) ?_
    refine RG.pv rfl (PV.load1 rfl Sc2 rfl (Rd.blk rfl)) ?_
    refine RG.ot rfl (OT.bslice (F := intT) (els := [_, _]) rfl El26 rfl (by decide) rfl (by decide) ⟨rfl, (Cl.c rfl), ⟨rfl, (Cl.c rfl), trivial⟩⟩ fun v28 => ?_)
    refine RG.pv rfl (PV.mvI (.inl rfl) rfl) ?_
    refine RG.pv rfl (PV.idxS (j := s.toNat) (v := v28) rfl Is26 rfl SlF.o rfl (by omega) (by omega)) ?_
    refine RG.pv rfl (PV.loadE1 rfl Sc2 rfl rfl (El.o (getG (by omega))) rfl) ?_
    refine RG.pv rfl (PV.mvI (.inl rfl) rfl) ?_
    refine RG.callF (vs := [v, _, _]) rfl rfl En88 rfl (l17Cell_d (Rs.up h1) hD ?_)
    refine RG.nil ?_
    refine WP.cond rfl (fun h3 => ?_) (fun h3 => ?_)
    · rw [h3, show one true = 1 from rfl] at c1
      refine WP.region ?_
      refine RG.pv rfl (PV.mvI (.inl rfl) rfl) ?_
      refine RG.pv rfl (PV.add rfl rfl rfl (by omega)) ?_
      refine RG.pv rfl (PV.mvI (.inr rfl) rfl) ?_
      refine RG.nil ?_
      refine WP.region ?_
      refine RG.pv rfl (PV.mvI (.inl rfl) rfl) ?_
      refine RG.pv rfl (PV.add rfl rfl rfl (by omega)) ?_
      refine RG.pv rfl (PV.mvI (.inr rfl) rfl) ?_
      refine RG.nil ?_
      exact ⟨rfl, i + 1, _, _, ⟨by omega, by omega, by omega, .inr h2'.2⟩, ⟨rfl, rfl, trivial⟩, ⟨rfl, rfl, rfl, trivial⟩, Cv.p, by omega⟩
    · rw [h3, show one false = 0 from rfl] at c1
      refine WP.skip ?_
      refine WP.region ?_
      refine RG.pv rfl (PV.mvI (.inl rfl) rfl) ?_
      refine RG.pv rfl (PV.add rfl rfl rfl (by omega)) ?_
      refine RG.pv rfl (PV.mvI (.inr rfl) rfl) ?_
      refine RG.nil ?_
      exact ⟨rfl, i + 1, _, _, ⟨by omega, by omega, by omega, .inr h2'.2⟩, ⟨rfl, rfl, trivial⟩, ⟨rfl, rfl, rfl, trivial⟩, Cv.p, by omega⟩
  · have h2' : ¬ (y < r.y1 ∧ s < 2) := by simpa using h2
    have hn2 : n = if s < 2 then tch D r s else 0 := by
      by_cases c : s < 2
      · obtain rfl : i = hR r := by omega
        rw [if_pos c, tch, if_pos c, hn]
      · obtain rfl : i = 0 := by omega
        rw [if_neg c, hn]; rfl
    refine WP.exit ?_
    refine WP.seq ?_
    refine WP.seq ?_
    refine WP.region ?_
    refine RG.pv rfl (PV.field rfl Fo61_0 rfl) ?_
    refine RG.pv rfl (PV.load1 rfl Sc2 rfl (Rd.blk rfl)) ?_
    refine RG.pv rfl (PV.mvI (.inr rfl) rfl) ?_
    refine RG.nil ?_
    refine WP.block ?_
    refine WP.loop3 [0, 2, 4] (fun (m : Nat) (x n2 : Int) => m ≤ wR r ∧ x = r.x0 + m ∧ n2 = n + tH D (gd [r.y0 - 1, r.y1] (s - 2).toNat) r.x0 m ∧ (m = 0 ∨ 2 ≤ s)) (fun (m : Nat) (x n2 : Int) => [(9, vi x), (7, vi n2)]) (fun (m : Nat) (x n2 : Int) => blk b4 61 (rectT.enc r) :: L) (fun (m : Nat) (x n2 : Int) => wR r - m) 0 r.x0 n ⟨by omega, by omega, by simp [tH, cntF, sumF], .inl rfl⟩ ⟨rfl, rfl, trivial⟩ Cv.p ?_
    rintro m x n2 τ2 ⟨hm, hx, hn3, hz2⟩
    refine WP.seq ?_
    refine WP.seq ?_
    refine WP.region ?_
    refine RG.pv rfl (PV.mvI (.inl rfl) rfl) ?_
    refine RG.pv rfl (PV.field rfl Fo61_2 rfl) ?_
    refine RG.pv rfl (PV.load1 rfl Sc2 rfl (Rd.blk rfl)) ?_
    refine RG.pv rfl (PV.lss rfl rfl rfl) ?_
    refine RG.pv rfl (PV.mvB (.inl rfl) rfl) ?_
    refine RG.gs rfl rfl rfl (fun hp => (PV.mvI (.inl rfl) rfl)) ?_
    refine RG.gs rfl rfl rfl (fun hp => (PV.geq rfl (gs_t hp) rfl)) ?_
    refine RG.pv rfl (PV.pickA rfl rfl (fun hq => gs_t (geqT hq)) rfl) ?_
    refine RG.nil ?_
    have b3 := cntF_bd (fun k => cellB D (r.x0 + k) (gd [r.y0 - 1, r.y1] (s - 2).toNat)) m
    have b4' : tH D (gd [r.y0 - 1, r.y1] (s - 2).toNat) r.x0 m = cntF (fun k => cellB D (r.x0 + k) (gd [r.y0 - 1, r.y1] (s - 2).toNat)) m := rfl
    refine WP.cond rfl (fun h4 => ?_) (fun h4 => ?_)
    · have h4' : x < r.x1 ∧ 2 ≤ s := by simpa using h4
      subst hx
      have c1 : tH D (gd [r.y0 - 1, r.y1] (s - 2).toNat) r.x0 (m + 1) = tH D (gd [r.y0 - 1, r.y1] (s - 2).toNat) r.x0 m + one (cellB D (r.x0 + m) (gd [r.y0 - 1, r.y1] (s - 2).toNat)) := rfl
      refine WP.skip ?_
      refine WP.seq ?_
      refine WP.block ?_
      refine WP.seq ?_
      refine WP.region ?_
      refine RG.pv rfl (PV.move (v := v) rfl rfl) ?_
      refine RG.pv rfl (PV.mvI (.inl rfl) rfl) ?_
      refine RG.pv rfl (PV.field rfl Fo61_1 rfl) ?_
      refine RG.pv rfl (PV.load1 rfl Sc2 rfl (Rd.blk rfl)) ?_
      refine RG.pv rfl (PV.sub rfl rfl rfl (by omega)) ?_
      refine RG.pv rfl (PV.field rfl Fo61_3 rfl) ?_
      refine RG.pv rfl (PV.load1 rfl Sc2 rfl (Rd.blk rfl)) ?_
      refine RG.ot rfl (OT.bslice (F := intT) (els := [_, _]) rfl El26 rfl (by decide) rfl (by decide) ⟨rfl, (Cl.c rfl), ⟨rfl, (Cl.c rfl), trivial⟩⟩ fun v55 => ?_)
      refine RG.pv rfl (PV.mvI (.inl rfl) rfl) ?_
      refine RG.pv rfl (PV.sub rfl rfl rfl (by omega)) ?_
      refine RG.pv rfl (PV.idxS (j := (s - 2).toNat) (v := v55) rfl Is26 rfl SlF.o rfl (by omega) (by omega)) ?_
      refine RG.pv rfl (PV.loadE1 rfl Sc2 rfl rfl (El.o (getG (by omega))) rfl) ?_
      refine RG.callF (vs := [v, _, _]) rfl rfl En88 rfl (l17Cell_d (Rs.up h1) hD ?_)
      refine RG.nil ?_
      refine WP.cond rfl (fun h5 => ?_) (fun h5 => ?_)
      · rw [h5, show one true = 1 from rfl] at c1
        refine WP.region ?_
        refine RG.pv rfl (PV.mvI (.inl rfl) rfl) ?_
        refine RG.pv rfl (PV.add rfl rfl rfl (by omega)) ?_
        refine RG.pv rfl (PV.mvI (.inr rfl) rfl) ?_
        refine RG.nil ?_
        refine WP.region ?_
        refine RG.pv rfl (PV.mvI (.inl rfl) rfl) ?_
        refine RG.pv rfl (PV.add rfl rfl rfl (by omega)) ?_
        refine RG.pv rfl (PV.mvI (.inr rfl) rfl) ?_
        refine RG.nil ?_
        exact ⟨rfl, m + 1, _, _, ⟨by omega, by omega, by omega, .inr h4'.2⟩, ⟨rfl, rfl, trivial⟩, ⟨rfl, rfl, rfl, trivial⟩, Cv.p, by omega⟩
      · rw [h5, show one false = 0 from rfl] at c1
        refine WP.skip ?_
        refine WP.region ?_
        refine RG.pv rfl (PV.mvI (.inl rfl) rfl) ?_
        refine RG.pv rfl (PV.add rfl rfl rfl (by omega)) ?_
        refine RG.pv rfl (PV.mvI (.inr rfl) rfl) ?_
        refine RG.nil ?_
        exact ⟨rfl, m + 1, _, _, ⟨by omega, by omega, by omega, .inr h4'.2⟩, ⟨rfl, rfl, trivial⟩, ⟨rfl, rfl, rfl, trivial⟩, Cv.p, by omega⟩
    · have h4' : ¬ (x < r.x1 ∧ 2 ≤ s) := by simpa using h4
      have hn4 : tch D r s = n2 := by
        by_cases c : s < 2
        · obtain rfl : m = 0 := by omega
          rw [hn3, hn2, if_pos c]; simp [tH, cntF, sumF]
        · obtain rfl : m = wR r := by omega
          rw [hn3, hn2, if_neg c, tch, if_neg c]; omega
      rw [hn4] at k
      refine WP.exit ?_
      refine WP.seq ?_
      refine WP.region ?_
      refine RG.pv rfl (PV.mvI (.inl rfl) rfl) ?_
      refine RG.pv rfl (PV.mvI (.inr rfl) rfl) ?_
      refine RG.nil ?_
      refine WP.ret ?_
      exact ⟨_, _, ResV.one rfl rfl, Cv.p, k⟩
theorem flow_s {v : Value} {D : List Bool} {r : Rect} (h1 : Rs G L boolT v D) (hD : D.length = 6400) (hr : validRect r = true) (k : R (vi (flowB D r)) G L) : CallT Tryz.prog 185 #[v, vrect r] G L R := by
  have hv := validR_iff.1 hr
  have t0 : tch D r 0 = tV D (r.x0 - 1) r.y0 (hR r) := by simp [tch, gd]
  have t1 : tch D r 1 = tV D r.x1 r.y0 (hR r) := by simp [tch, gd]
  have t2 : tch D r 2 = tH D (r.y0 - 1) r.x0 (wR r) := by simp [tch, gd]
  have t3 : tch D r 3 = tH D r.y1 r.x0 (wR r) := by simp [tch, gd]
  rw [flowB, ← t0, ← t1, ← t2, ← t3] at k
  refine CallT.enter (args := _) Tryz.func185 rfl rfl (by kernel_rfl) rfl ?_
  refine WP.seq ?_
  refine WP.region ?_
  refine RG.ot rfl (OT.box (cs := rectT.enc r) rfl rfl rfl fun b3 => ?_)
  refine RG.pv rfl (PV.mvI (.inr rfl) rfl) ?_
  refine RG.nil ?_
  refine WP.seq ?_
  refine WP.regionQ (by kernel_rfl) (by kernel_rfl) ?_
  refine RQ.pv rfl (PV.move (v := v) rfl rfl) ?_
  refine RQ.pv rfl (PV.loadW rfl Ag61 rfl rfl) ?_
  refine RQ.callF (vs := [v, _, _]) rfl rfl En212 rfl (touch_s (Rs.up h1) hD hr (by omega) ⟨rfl, rfl, rfl⟩) ?_
  refine RQ.pv rfl (PV.move (v := v) rfl rfl) ?_
  refine RQ.pv rfl (PV.loadW rfl Ag61 rfl rfl) ?_
  refine RQ.callF (vs := [v, _, _]) rfl rfl En212 rfl (touch_s (Rs.up h1) hD hr (by omega) ⟨rfl, rfl, rfl⟩) ?_
  refine RQ.pv rfl (PV.move (v := v) rfl rfl) ?_
  refine RQ.pv rfl (PV.loadW rfl Ag61 rfl rfl) ?_
  refine RQ.callF (vs := [v, _, _]) rfl rfl En212 rfl (touch_s (Rs.up h1) hD hr (by omega) ⟨rfl, rfl, rfl⟩) ?_
  refine RQ.pv rfl (PV.move (v := v) rfl rfl) ?_
  refine RQ.pv rfl (PV.loadW rfl Ag61 rfl rfl) ?_
  refine RQ.callF (vs := [v, _, _]) rfl rfl En212 rfl (touch_s (Rs.up h1) hD hr (by omega) ⟨rfl, rfl, rfl⟩) ?_
  refine RQ.pv rfl (PV.mvI (.inr rfl) rfl) ?_
  refine RQ.pv rfl (PV.mvI (.inr rfl) rfl) ?_
  refine RQ.pv rfl (PV.mvI (.inr rfl) rfl) ?_
  refine RQ.pv rfl (PV.mvI (.inr rfl) rfl) ?_
  refine RQ.nil ?_
  refine WP.seq ?_
  refine WP.block ?_
  refine WP.seq ?_
  refine WP.region ?_
  refine RG.pv rfl (PV.mvI (.inl rfl) rfl) ?_
  refine RG.pv rfl (PV.field rfl Fo61_3 rfl) ?_
  refine RG.pv rfl (PV.load1 rfl Sc2 rfl (Rd.blk rfl)) ?_
  refine RG.pv rfl (PV.field rfl Fo61_1 rfl) ?_
  refine RG.pv rfl (PV.load1 rfl Sc2 rfl (Rd.blk rfl)) ?_
  refine RG.pv rfl (PV.sub rfl rfl rfl (by omega)) ?_
  refine RG.pv rfl (PV.eql rfl rfl rfl) ?_
  refine RG.pv rfl (PV.mvB (.inl rfl) rfl) ?_
  refine RG.gs rfl rfl rfl (fun hp => (PV.mvI (.inl rfl) rfl)) ?_
  refine RG.gs rfl rfl rfl (fun hp => (PV.field rfl Fo61_3 rfl)) ?_
  refine RG.gs rfl rfl rfl (fun hp => (PV.load1 rfl Sc2 (gs_t hp) (Rd.blk rfl))) ?_
  refine RG.gs rfl rfl rfl (fun hp => (PV.field rfl Fo61_1 rfl)) ?_
  refine RG.gs rfl rfl rfl (fun hp => (PV.load1 rfl Sc2 (gs_t hp) (Rd.blk rfl))) ?_
  refine RG.gs rfl rfl rfl (fun hp => (PV.sub rfl (gs_t hp) (gs_t hp) (by first | omega | (simp at hp; omega)))) ?_
  refine RG.gs rfl rfl rfl (fun hp => (PV.eql rfl (gs_t hp) (gs_t hp))) ?_
  refine RG.pv rfl (PV.pickA rfl rfl (fun hq => gs_t (geqT hq)) rfl) ?_
  refine RG.pv rfl (PV.mvB (.inl rfl) rfl) ?_
  refine RG.gs rfl rfl rfl (fun hp => (PV.mvI (.inl rfl) rfl)) ?_
  refine RG.gs rfl rfl rfl (fun hp => (PV.eql rfl (gs_t hp) rfl)) ?_
  refine RG.pv rfl (PV.pickA rfl rfl (fun hq => gs_t (geqT hq)) rfl) ?_
  refine RG.pv rfl (PV.mvB (.inl rfl) rfl) ?_
  refine RG.gs rfl rfl rfl (fun hp => (PV.mvI (.inl rfl) rfl)) ?_
  refine RG.gs rfl rfl rfl (fun hp => (PV.eql rfl (gs_t hp) rfl)) ?_
  refine RG.pv rfl (PV.pickA rfl rfl (fun hq => gs_t (geqT hq)) rfl) ?_
  refine RG.pv rfl (PV.mvB (.inr rfl) rfl) ?_
  refine RG.nil ?_
  refine WP.cond rfl (fun h2 => ?_) (fun h2 => ?_)
  · have e : flowI (tch D r 0) (tch D r 1) (tch D r 2) (tch D r 3) (r.y1 - r.y0) (r.x1 - r.x0) = 1 := by
      simp only [Bool.and_eq_true, decide_eq_true_eq] at h2
      rw [flowI, if_pos ⟨h2.1.1.1, h2.1.1.2, h2.1.2, h2.2⟩]
    rw [e] at k
    refine WP.seq ?_
    refine WP.region ?_
    refine RG.pv rfl (PV.mvI (.inr rfl) rfl) ?_
    refine RG.nil ?_
    refine WP.ret ?_
    exact ⟨_, _, ResV.one rfl rfl, Cv.p, k⟩
  · have n1 : ¬ (tch D r 0 = r.y1 - r.y0 ∧ tch D r 1 = r.y1 - r.y0 ∧ tch D r 2 = 0 ∧ tch D r 3 = 0) := by
      rintro ⟨g1, g2, g3, g4⟩; simp [g1, g2, g3, g4] at h2
    refine WP.seq ?_
    refine WP.region ?_
    refine RG.pv rfl (PV.mvI (.inl rfl) rfl) ?_
    refine RG.pv rfl (PV.eql rfl rfl rfl) ?_
    refine RG.pv rfl (PV.mvB (.inl rfl) rfl) ?_
    refine RG.gs rfl rfl rfl (fun hp => (PV.mvI (.inl rfl) rfl)) ?_
    refine RG.gs rfl rfl rfl (fun hp => (PV.eql rfl (gs_t hp) rfl)) ?_
    refine RG.pv rfl (PV.pickA rfl rfl (fun hq => gs_t (geqT hq)) rfl) ?_
    refine RG.pv rfl (PV.mvB (.inl rfl) rfl) ?_
    refine RG.gs rfl rfl rfl (fun hp => (PV.mvI (.inl rfl) rfl)) ?_
    refine RG.gs rfl rfl rfl (fun hp => (PV.field rfl Fo61_2 rfl)) ?_
    refine RG.gs rfl rfl rfl (fun hp => (PV.load1 rfl Sc2 (gs_t hp) (Rd.blk rfl))) ?_
    refine RG.gs rfl rfl rfl (fun hp => (PV.field rfl Fo61_0 rfl)) ?_
    refine RG.gs rfl rfl rfl (fun hp => (PV.load1 rfl Sc2 (gs_t hp) (Rd.blk rfl))) ?_
    refine RG.gs rfl rfl rfl (fun hp => (PV.sub rfl (gs_t hp) (gs_t hp) (by first | omega | (simp at hp; omega)))) ?_
    refine RG.gs rfl rfl rfl (fun hp => (PV.eql rfl (gs_t hp) (gs_t hp))) ?_
    refine RG.pv rfl (PV.pickA rfl rfl (fun hq => gs_t (geqT hq)) rfl) ?_
    refine RG.pv rfl (PV.mvB (.inl rfl) rfl) ?_
    refine RG.gs rfl rfl rfl (fun hp => (PV.mvI (.inl rfl) rfl)) ?_
    refine RG.gs rfl rfl rfl (fun hp => (PV.field rfl Fo61_2 rfl)) ?_
    refine RG.gs rfl rfl rfl (fun hp => (PV.load1 rfl Sc2 (gs_t hp) (Rd.blk rfl))) ?_
    refine RG.gs rfl rfl rfl (fun hp => (PV.field rfl Fo61_0 rfl)) ?_
    refine RG.gs rfl rfl rfl (fun hp => (PV.load1 rfl Sc2 (gs_t hp) (Rd.blk rfl))) ?_
    refine RG.gs rfl rfl rfl (fun hp => (PV.sub rfl (gs_t hp) (gs_t hp) (by first | omega | (simp at hp; omega)))) ?_
    refine RG.gs rfl rfl rfl (fun hp => (PV.eql rfl (gs_t hp) (gs_t hp))) ?_
    refine RG.pv rfl (PV.pickA rfl rfl (fun hq => gs_t (geqT hq)) rfl) ?_
    refine RG.pv rfl (PV.mvB (.inr rfl) rfl) ?_
    refine RG.nil ?_
    refine WP.cond rfl (fun h3 => ?_) (fun h3 => ?_)
    · have e : flowI (tch D r 0) (tch D r 1) (tch D r 2) (tch D r 3) (r.y1 - r.y0) (r.x1 - r.x0) = 2 := by
        simp only [Bool.and_eq_true, decide_eq_true_eq] at h3
        rw [flowI, if_neg n1, if_pos ⟨h3.1.1.1, h3.1.1.2, h3.1.2, h3.2⟩]
      rw [e] at k
      refine WP.seq ?_
      refine WP.region ?_
      refine RG.pv rfl (PV.mvI (.inr rfl) rfl) ?_
      refine RG.nil ?_
      refine WP.ret ?_
      exact ⟨_, _, ResV.one rfl rfl, Cv.p, k⟩
    · have n2 : ¬ (tch D r 0 = 0 ∧ tch D r 1 = 0 ∧ tch D r 2 = r.x1 - r.x0 ∧ tch D r 3 = r.x1 - r.x0) := by
        rintro ⟨g1, g2, g3, g4⟩; simp [g1, g2, g3, g4] at h3
      have e : flowI (tch D r 0) (tch D r 1) (tch D r 2) (tch D r 3) (r.y1 - r.y0) (r.x1 - r.x0) = 0 := by rw [flowI, if_neg n1, if_neg n2]
      rw [e] at k
      refine WP.skip ?_
      refine WP.seq ?_
      refine WP.region ?_
      refine RG.pv rfl (PV.mvI (.inr rfl) rfl) ?_
      refine RG.nil ?_
      refine WP.ret ?_
      exact ⟨_, _, ResV.one rfl rfl, Cv.p, k⟩
theorem length_s {r : Rect} (hv : validRect r = true) (k : R (vi (areaR r)) G L) : CallT Tryz.prog 187 #[vrect r] G L R := by
  have h := validR_iff.1 hv
  have hb := area_bd hv
  have e : areaR r = (r.x1 - r.x0) * (r.y1 - r.y0) := rfl
  rw [e] at hb
  refine CallT.enter (args := _) Tryz.func187 rfl rfl (by kernel_rfl) rfl ?_
  refine WP.seq ?_
  refine WP.region ?_
  refine RG.ot rfl (OT.box (cs := rectT.enc r) rfl rfl rfl fun b1 => ?_)
  refine RG.pv rfl (PV.mvI (.inr rfl) rfl) ?_
  refine RG.nil ?_
  refine WP.seq ?_
  refine WP.region ?_
  refine RG.pv rfl (PV.field rfl Fo61_2 rfl) ?_
  refine RG.pv rfl (PV.load1 rfl Sc2 rfl (Rd.blk rfl)) ?_
  refine RG.pv rfl (PV.field rfl Fo61_0 rfl) ?_
  refine RG.pv rfl (PV.load1 rfl Sc2 rfl (Rd.blk rfl)) ?_
  refine RG.pv rfl (PV.sub rfl rfl rfl (by omega)) ?_
  refine RG.pv rfl (PV.field rfl Fo61_3 rfl) ?_
  refine RG.pv rfl (PV.load1 rfl Sc2 rfl (Rd.blk rfl)) ?_
  refine RG.pv rfl (PV.field rfl Fo61_1 rfl) ?_
  refine RG.pv rfl (PV.load1 rfl Sc2 rfl (Rd.blk rfl)) ?_
  refine RG.pv rfl (PV.sub rfl rfl rfl (by omega)) ?_
  refine RG.pv rfl (PV.mul rfl rfl rfl (by omega)) ?_
  refine RG.pv rfl (PV.mvI (.inr rfl) rfl) ?_
  refine RG.nil ?_
  refine WP.ret ?_
  exact ⟨_, _, ResV.one rfl rfl, Cv.p, k⟩
theorem cell_at {S : List Bool} {r : Rect} (hv : validRect r = true) {j i : Nat} (hj : j < hR r) (hi : i < wR r) : ((r.y0 + (j : Int) + 40) * 80 + (r.x0 + (i : Int)) + 40).toNat < 6400 ∧ gd S ((r.y0 + (j : Int) + 40) * 80 + (r.x0 + (i : Int)) + 40).toNat = cellB S (r.x0 + i) (r.y0 + j) ∧ 0 ≤ (r.y0 + (j : Int) + 40) * 80 + (r.x0 + (i : Int)) + 40 := by
  have h := validR_iff.1 hv
  simp only [hR, wR] at hj hi
  refine ⟨by omega, ?_, by omega⟩
  rw [cellB, decide_eq_true (by omega), decide_eq_true (by omega)]; rfl
theorem l19Cov_s {v : Value} {S : List Bool} {r : Rect} (h1 : Rs G L boolT v S) (hS : S.length = 6400) (hr : validRect r = true) (k : R (vi (covB S r)) G L) : CallT Tryz.prog 186 #[v, vrect r] G L R := by
  have hv := validR_iff.1 hr
  have e1 : (wR r : Int) = r.x1 - r.x0 := by simp only [wR]; omega
  have e2 : (hR r : Int) = r.y1 - r.y0 := by simp only [hR]; omega
  have hbd : ∀ j, 0 ≤ sumF (fun j => tH S (r.y0 + j) r.x0 (wR r)) j ∧ sumF (fun j => tH S (r.y0 + j) r.x0 (wR r)) j ≤ j * wR r := sumF_bd fun _ => cntF_bd _ _
  refine CallT.enter (args := _) Tryz.func186 rfl rfl (by kernel_rfl) rfl ?_
  refine WP.seq ?_
  refine WP.region ?_
  refine RG.ot rfl (OT.box (cs := rectT.enc r) rfl rfl rfl fun b3 => ?_)
  refine RG.pv rfl (PV.mvI (.inr rfl) rfl) ?_
  refine RG.nil ?_
  refine WP.seq ?_
  refine WP.region ?_
  refine RG.pv rfl (PV.mvI (.inr rfl) rfl) ?_
  refine RG.nil ?_
  refine WP.seq ?_
  refine WP.seq ?_
  refine WP.region ?_
  refine RG.pv rfl (PV.field rfl Fo61_1 rfl) ?_
  refine RG.pv rfl (PV.load1 rfl Sc2 rfl (Rd.blk rfl)) ?_
  refine RG.pv rfl (PV.mvI (.inr rfl) rfl) ?_
  refine RG.nil ?_
  refine WP.block ?_
  refine WP.loop3 [0, 3] (fun (j : Nat) (y n : Int) => j ≤ hR r ∧ y = r.y0 + j ∧ n = sumF (fun j => tH S (r.y0 + j) r.x0 (wR r)) j) (fun (j : Nat) (y n : Int) => [(6, vi y), (5, vi n)]) (fun (j : Nat) (y n : Int) => blk b3 61 (rectT.enc r) :: L) (fun (j : Nat) (y n : Int) => hR r - j) 0 r.y0 0 ⟨by omega, by omega, rfl⟩ ⟨rfl, rfl, trivial⟩ Cv.p ?_
  rintro j y n τ ⟨hj, hy, hn⟩
  refine WP.seq ?_
  refine WP.seq ?_
  refine WP.region ?_
  refine RG.pv rfl (PV.mvI (.inl rfl) rfl) ?_
  refine RG.pv rfl (PV.field rfl Fo61_3 rfl) ?_
  refine RG.pv rfl (PV.load1 rfl Sc2 rfl (Rd.blk rfl)) ?_
  refine RG.pv rfl (PV.lss rfl rfl rfl) ?_
  refine RG.nil ?_
  have b1 := hbd j
  have b0 : (j : Int) * wR r ≤ 80 * 80 := Int.mul_le_mul (by omega) (by omega) (by omega) (by omega)
  refine WP.cond rfl (fun h2 => ?_) (fun h2 => ?_)
  · have h2 := of_decide_eq_true h2
    subst hy
    refine WP.skip ?_
    refine WP.seq ?_
    refine WP.block ?_
    refine WP.seq ?_
    refine WP.region ?_
    refine RG.pv rfl (PV.field rfl Fo61_0 rfl) ?_
    refine RG.pv rfl (PV.load1 rfl Sc2 rfl (Rd.blk rfl)) ?_
    refine RG.pv rfl (PV.mvI (.inr rfl) rfl) ?_
    refine RG.nil ?_
    refine WP.block ?_
    refine WP.loop3 [0, 3, 6] (fun (i : Nat) (x m : Int) => i ≤ wR r ∧ x = r.x0 + i ∧ m = n + tH S (r.y0 + j) r.x0 i) (fun (i : Nat) (x m : Int) => [(7, vi x), (5, vi m)]) (fun (i : Nat) (x m : Int) => blk b3 61 (rectT.enc r) :: L) (fun (i : Nat) (x m : Int) => wR r - i) 0 r.x0 n ⟨by omega, by omega, by simp [tH, cntF, sumF]⟩ ⟨rfl, rfl, trivial⟩ Cv.p ?_
    rintro i x m τ1 ⟨hi, hx, hm⟩
    refine WP.seq ?_
    refine WP.seq ?_
    refine WP.region ?_
    refine RG.pv rfl (PV.mvI (.inl rfl) rfl) ?_
    refine RG.pv rfl (PV.field rfl Fo61_2 rfl) ?_
    refine RG.pv rfl (PV.load1 rfl Sc2 rfl (Rd.blk rfl)) ?_
    refine RG.pv rfl (PV.lss rfl rfl rfl) ?_
    refine RG.nil ?_
    have b3' := cntF_bd (fun k => cellB S (r.x0 + k) (r.y0 + j)) i
    have b4' : tH S (r.y0 + j) r.x0 i = cntF (fun k => cellB S (r.x0 + k) (r.y0 + j)) i := rfl
    refine WP.cond rfl (fun h3 => ?_) (fun h3 => ?_)
    · have h3 := of_decide_eq_true h3
      subst hx
      have c1 : tH S (r.y0 + j) r.x0 (i + 1) = tH S (r.y0 + j) r.x0 i + one (cellB S (r.x0 + i) (r.y0 + j)) := rfl
      obtain ⟨q1, q2, q3⟩ := cell_at (S := S) hr (j := j) (i := i) (by omega) (by omega)
      refine WP.skip ?_
      refine WP.seq ?_
      refine WP.block ?_
      refine WP.seq ?_
      refine WP.region ?_
      refine RG.pv rfl (PV.move (v := v) rfl rfl) ?_
      refine RG.pv rfl (PV.mvI (.inl rfl) rfl) ?_
      refine RG.pv rfl (PV.mvI (.inl rfl) rfl) ?_
      refine RG.callF (vs := [_, _]) rfl rfl En107 rfl (l17At_s (by omega) (by omega) ?_)
      refine RG.pv rfl (PV.idxS (j := ((r.y0 + (j : Int) + 40) * 80 + (r.x0 + (i : Int)) + 40).toNat) (v := v) rfl Is124 rfl (SlF.r h1) rfl (by omega) (by omega)) ?_
      refine RG.pv rfl (PV.loadE1 rfl Sc4 rfl rfl (El.r h1 (getG (by omega))) rfl) ?_
      refine RG.nil ?_
      rw [q2]
      refine WP.cond rfl (fun h4 => ?_) (fun h4 => ?_)
      · rw [h4, show one true = 1 from rfl] at c1
        refine WP.region ?_
        refine RG.pv rfl (PV.mvI (.inl rfl) rfl) ?_
        refine RG.pv rfl (PV.add rfl rfl rfl (by omega)) ?_
        refine RG.pv rfl (PV.mvI (.inr rfl) rfl) ?_
        refine RG.nil ?_
        refine WP.region ?_
        refine RG.pv rfl (PV.mvI (.inl rfl) rfl) ?_
        refine RG.pv rfl (PV.add rfl rfl rfl (by omega)) ?_
        refine RG.pv rfl (PV.mvI (.inr rfl) rfl) ?_
        refine RG.nil ?_
        exact ⟨rfl, i + 1, _, _, ⟨by omega, by omega, by omega⟩, ⟨rfl, rfl, trivial⟩, ⟨rfl, rfl, rfl, trivial⟩, Cv.p, by omega⟩
      · rw [h4, show one false = 0 from rfl] at c1
        refine WP.skip ?_
        refine WP.region ?_
        refine RG.pv rfl (PV.mvI (.inl rfl) rfl) ?_
        refine RG.pv rfl (PV.add rfl rfl rfl (by omega)) ?_
        refine RG.pv rfl (PV.mvI (.inr rfl) rfl) ?_
        refine RG.nil ?_
        exact ⟨rfl, i + 1, _, _, ⟨by omega, by omega, by omega⟩, ⟨rfl, rfl, trivial⟩, ⟨rfl, rfl, rfl, trivial⟩, Cv.p, by omega⟩
    · have h3 := of_decide_eq_false h3
      obtain rfl : i = wR r := by omega
      refine WP.exit ?_
      refine WP.region ?_
      refine RG.pv rfl (PV.mvI (.inl rfl) rfl) ?_
      refine RG.pv rfl (PV.add rfl rfl rfl (by omega)) ?_
      refine RG.pv rfl (PV.mvI (.inr rfl) rfl) ?_
      refine RG.nil ?_
      exact ⟨rfl, j + 1, _, _, ⟨by omega, by omega, by rw [sumF, hm, hn]⟩, ⟨rfl, rfl, trivial⟩, ⟨rfl, rfl, trivial⟩, Cv.p, by omega⟩
  · have h2 := of_decide_eq_false h2
    obtain rfl : j = hR r := by omega
    have e : covB S r = n := by rw [hn]; rfl
    rw [e] at k
    refine WP.exit ?_
    refine WP.seq ?_
    refine WP.region ?_
    refine RG.pv rfl (PV.mvI (.inl rfl) rfl) ?_
    refine RG.pv rfl (PV.mvI (.inr rfl) rfl) ?_
    refine RG.nil ?_
    refine WP.ret ?_
    exact ⟨_, _, ResV.one rfl rfl, Cv.p, k⟩
noncomputable def chW (l : List (List Rect)) (g : List Rect) : Int := if chK l g < 0 then 0 else chF l g
theorem l23Cond_b {v : Value} {xs : List (Sl Rect)} (h1 : Rs G L slT v xs) (hd : RsE G L rectT xs) (h8 : xs.length = 8) (hreg : ∀ i, i < 8 → isReg (gd xs i).xs = true) (k : ∀ v' zs, er zs = condB (er xs) → zs.length = 4 → R v' G (osl 124 slT v' zs :: bagS 4 boolT zs :: L)) : CallT Tryz.prog 83 #[v] G L R :=
  l23Conductors_s h1 hd h8 hreg fun v' zs h => k v' zs h (by have := congrArg List.length h; rw [er_len] at this; exact this)
theorem l24Channel_s {v u : Value} {xs : List (Sl Rect)} {g : List Rect} (h1 : Rs G L slT v xs) (hd : RsE G L rectT xs) (h2 : Rs G L rectT u g) (hlay : isLay (er xs) = true) (hg0 : 0 < g.length) (hgr : isReg g = true) (k : R (.tuple #[vi (chK (er xs) g), vi (chW (er xs) g)]) G L) : CallT Tryz.prog 122 #[v, u] G L R := by
  have h8 : xs.length = 8 := by have := isLay_len hlay; rwa [er_len] at this
  have hreg : ∀ i, i < 8 → isReg (gd xs i).xs = true := fun i hi => by rw [← er_gd]; exact isLay_reg hlay hi
  have hgl := isReg_len hgr
  have hc4 : ∀ {zs : List (Sl Bool)}, er zs = condB (er xs) → 0 < zs.length := fun h => by have := congrArg List.length h; rw [er_len] at this; rw [this]; simp [condB]
  have hcd : ∀ {zs : List (Sl Bool)}, er zs = condB (er xs) → (gd zs 0).xs = difC (er xs) := fun h => by rw [← er_gd, h]; rfl
  refine CallT.enter (args := _) Tryz.func122 rfl rfl (by kernel_rfl) rfl ?_
  refine WP.seq ?_
  refine WP.region ?_
  refine RG.pv rfl (PV.mvI (.inr rfl) rfl) ?_
  refine RG.pv rfl (PV.mvI (.inr rfl) rfl) ?_
  refine RG.nil ?_
  refine WP.seq ?_
  refine WP.region ?_
  refine RG.pv rfl (PV.mvI (.inr rfl) rfl) ?_
  refine RG.nil ?_
  refine WP.cut1 [0, 1] (fun (f : Int) => f = chF (er xs) g) (fun (f : Int) => [(6, vi f)]) (fun (f : Int) => L) ?_ ?_
  refine WP.seq ?_
  refine WP.region ?_
  refine RG.pv rfl (PV.move (v := u) rfl rfl) ?_
  refine RG.pv rfl (PV.len (v := u) rfl Tryz.underlying56 rfl (SlF.r h2)) ?_
  refine RG.pv rfl (PV.eql rfl rfl rfl) ?_
  refine RG.nil ?_
  · refine WP.cond rfl (fun h3 => ?_) (fun h3 => ?_)
    · have h3 := of_decide_eq_true h3
      refine WP.regionH0 (.q 0 (.q 4 (.q 5 (.q 6 (.l 1 (.q 2 (.q 3 (.l 7 (.q 8 Sch.nil))))))))) (by kernel_rfl) (by kernel_rfl) (by kernel_rfl) rfl ?_
      refine RH.pv rfl (fun _ _ _ _ h => h) (Gh.le_refl _) PickC.pick rfl (PV.move (v := v) rfl rfl) ?_
      refine RH.pv rfl (fun _ _ _ _ h => h) (Gh.le_refl _) PickC.pick rfl (PV.move (v := u) rfl rfl) ?_
      refine RH.pv rfl (fun _ _ _ _ h => h) (Gh.le_refl _) PickC.pick rfl (PV.idxS (j := 0) (v := u) rfl Is56 rfl (SlF.r h2) rfl (by omega) (by omega)) ?_
      refine RH.pv rfl (fun _ _ _ _ h => h) (Gh.le_refl _) PickC.pick rfl (PV.loadE rfl Ag61 rfl rfl (El.r h2 (getG (by omega)))) ?_
      refine RH.ot rfl rfl (OT.callF (vs := [v]) rfl En83 rfl (l23Cond_b (Rs.up h1) hd.up h8 hreg (fun v11 zsv11 hev11 hlv11 => ⟨Gh.le_refl _, PickC.pick, ?_⟩)))
      refine RH.up1 ?_
      refine RH.pv rfl (fun _ _ _ _ h => h) (Gh.le_refl _) PickC.pick rfl (PV.idxS (j := 0) (v := v11) rfl Is121 rfl SlF.o rfl (by omega) (by omega)) ?_
      refine RH.pv rfl (fun _ _ _ _ h => h) (Gh.le_refl _) PickC.pick rfl (PV.loadE1 rfl Sc124 rfl rfl (El.o (getG (by omega))) rfl) ?_
      refine RH.ot rfl rfl (OT.callF (vs := [_, _]) rfl En185 rfl (flow_s (D := (gd zsv11 0).xs) (Rs.inBag (xs := zsv11) 0 (hc4 hev11)) (by rw [hcd hev11]; exact difC_len _) (valid_first hg0 hgr) ⟨Gh.le_refl _, PickC.pick, ?_⟩))
      refine RH.pv rfl (fun _ _ _ _ h => h) (Gh.le_refl _) PickC.pick rfl (PV.mvI (.inr rfl) rfl) ?_
      refine RH.nil ?_
      exact ⟨rfl, _, (by rw [chF, if_pos (by omega), hcd hev11]), ⟨rfl, trivial⟩, ⟨rfl, rfl, trivial⟩, Cv.p⟩
    · have h3 := of_decide_eq_false h3
      refine WP.skip ?_
      exact ⟨rfl, 0, (by rw [chF, if_neg (by omega)]), ⟨rfl, trivial⟩, ⟨rfl, rfl, trivial⟩, Cv.p⟩
  rintro f τ hf
  subst hf
  have hcg : gd (er xs) 6 = (gd xs 6).xs := er_gd _ _
  refine WP.seq ?_
  refine WP.seq ?_
  refine WP.region ?_
  refine RG.pv rfl (PV.mvI (.inl rfl) rfl) ?_
  refine RG.pv rfl (PV.eql rfl rfl rfl) ?_
  refine RG.nil ?_
  refine WP.cond rfl (fun h4 => ?_) (fun h4 => ?_)
  · have h4 := of_decide_eq_true h4
    have e : chK (er xs) g = -1 := by rw [chK, if_pos h4]
    have e2 : chW (er xs) g = 0 := by rw [chW, if_pos (by omega)]
    rw [e, e2] at k
    refine WP.seq ?_
    refine WP.region ?_
    refine RG.pv rfl (PV.mvI (.inr rfl) rfl) ?_
    refine RG.pv rfl (PV.mvI (.inr rfl) rfl) ?_
    refine RG.nil ?_
    refine WP.ret ?_
    exact ⟨_, _, ResV.two rfl rfl rfl, Cv.p, k⟩
  · have h4 := of_decide_eq_false h4
    refine WP.skip ?_
    refine WP.seq ?_
    refine WP.seq ?_
    refine WP.regionH0 (.q 0 (.q 1 (.q 2 (.q 4 (.q 5 (.q 6 (.l 3 (.l 7 Sch.nil)))))))) (by kernel_rfl) (by kernel_rfl) (by kernel_rfl) rfl ?_
    refine RH.pv rfl (fun _ _ _ _ h => h) (Gh.le_refl _) PickC.pick rfl (PV.move (v := v) rfl rfl) ?_
    refine RH.pv rfl (fun _ _ _ _ h => h) (Gh.le_refl _) PickC.pick rfl (PV.idxS (j := 6) (v := v) rfl Is29 rfl (SlF.r h1) rfl (by omega) (by omega)) ?_
    refine RH.pv rfl (fun _ _ _ _ h => h) (Gh.le_refl _) PickC.pick rfl (PV.loadE1 rfl Sc56 rfl rfl (El.r h1 (getG (by omega))) rfl) ?_
    refine RH.pv rfl (fun _ _ _ _ h => h) (Gh.le_refl _) PickC.pick rfl (PV.move (v := u) rfl rfl) ?_
    refine RH.pv rfl (fun _ _ _ _ h => h) (Gh.le_refl _) PickC.pick rfl (PV.idxS (j := 0) (v := u) rfl Is56 rfl (SlF.r h2) rfl (by omega) (by omega)) ?_
    refine RH.pv rfl (fun _ _ _ _ h => h) (Gh.le_refl _) PickC.pick rfl (PV.loadE rfl Ag61 rfl rfl (El.r h2 (getG (by omega)))) ?_
    refine RH.ot rfl rfl (OT.callF (vs := [_]) rfl En86 rfl (l03Bits_s (Rs.up (hd _ (by omega))) (fun i hi => valid_get (isReg_valid (hreg _ (by omega))) hi) (fun v23 => ⟨Gh.le_refl _, PickC.pick, ?_⟩)))
    refine RH.ot rfl rfl (OT.callF (vs := [v23, _]) rfl En186 rfl (l19Cov_s Rs.o (bits_length _) (valid_first hg0 hgr) ⟨Gh.le_refl _, PickC.pick, ?_⟩))
    refine RH.nil ?_
    refine WP.block ?_
    refine WP.seq ?_
    refine WP.region ?_
    refine RG.pv rfl (PV.eql rfl rfl rfl) ?_
    refine RG.pv rfl (PV.mvB (.inr rfl) rfl) ?_
    refine RG.nil ?_
    refine WP.cond rfl (fun h5 => ?_) (fun h5 => ?_)
    · have h5 := of_decide_eq_true h5
      have e : chK (er xs) g = 0 := by rw [chK, if_neg h4, hcg, if_pos h5]
      have e2 : chW (er xs) g = chF (er xs) g := by rw [chW, if_neg (by omega)]
      rw [e, e2] at k
      refine WP.seq ?_
      refine WP.region ?_
      refine RG.pv rfl (PV.mvI (.inl rfl) rfl) ?_
      refine RG.pv rfl (PV.mvI (.inr rfl) rfl) ?_
      refine RG.pv rfl (PV.mvI (.inr rfl) rfl) ?_
      refine RG.nil ?_
      refine WP.ret ?_
      exact ⟨_, _, ResV.two rfl rfl rfl, Cv.p, k⟩
    · have h5 := of_decide_eq_false h5
      refine WP.seq ?_
      refine WP.region ?_
      refine RG.pv rfl (PV.move (v := u) rfl rfl) ?_
      refine RG.pv rfl (PV.idxS (j := 0) (v := u) rfl Is56 rfl (SlF.r h2) rfl (by omega) (by omega)) ?_
      refine RG.pv rfl (PV.loadE rfl Ag61 rfl rfl (El.r h2 (getG (by omega)))) ?_
      refine RG.callF (vs := [_]) rfl rfl En187 rfl (length_s (valid_first hg0 hgr) ?_)
      refine RG.pv rfl (PV.eql rfl rfl rfl) ?_
      refine RG.pv rfl (PV.mvB (.inr rfl) rfl) ?_
      refine RG.nil ?_
      refine WP.cond rfl (fun h6 => ?_) (fun h6 => ?_)
      · have h6 := of_decide_eq_true h6
        have e : chK (er xs) g = 1 := by rw [chK, if_neg h4, hcg, if_neg h5, if_pos h6]
        have e2 : chW (er xs) g = chF (er xs) g := by rw [chW, if_neg (by omega)]
        rw [e, e2] at k
        refine WP.seq ?_
        refine WP.region ?_
        refine RG.pv rfl (PV.mvI (.inl rfl) rfl) ?_
        refine RG.pv rfl (PV.mvI (.inr rfl) rfl) ?_
        refine RG.pv rfl (PV.mvI (.inr rfl) rfl) ?_
        refine RG.nil ?_
        refine WP.ret ?_
        exact ⟨_, _, ResV.two rfl rfl rfl, Cv.p, k⟩
      · have h6 := of_decide_eq_false h6
        have e : chK (er xs) g = -1 := by rw [chK, if_neg h4, hcg, if_neg h5, if_neg h6]
        have e2 : chW (er xs) g = 0 := by rw [chW, if_pos (by omega)]
        rw [e, e2] at k
        refine WP.skip ?_
        refine WP.seq ?_
        refine WP.region ?_
        refine RG.pv rfl (PV.mvI (.inr rfl) rfl) ?_
        refine RG.pv rfl (PV.mvI (.inr rfl) rfl) ?_
        refine RG.nil ?_
        refine WP.ret ?_
        exact ⟨_, _, ResV.two rfl rfl rfl, Cv.p, k⟩
theorem l24Parts_s {v : Value} {xs : List (Sl Rect)} (h1 : Rs G L slT v xs) (hd : RsE G L rectT xs) (hlay : isLay (er xs) = true) (k : ∀ v' ys, er ys = partsC (er xs) → R v' G (osl 56 slT v' ys :: bagS 61 rectT ys :: L)) : CallT Tryz.prog 121 #[v] G L R := by
  have h8 : xs.length = 8 := by have := isLay_len hlay; rwa [er_len] at this
  have hreg : ∀ i, i < 8 → isReg (gd xs i).xs = true := fun i hi => by rw [← er_gd]; exact isLay_reg hlay hi
  refine CallT.enter (args := _) Tryz.func121 rfl rfl (by kernel_rfl) rfl ?_
  refine WP.seq ?_
  refine WP.region ?_
  refine RG.pv rfl (PV.asg rfl rfl) ?_
  refine RG.nil ?_
  refine WP.seq ?_
  refine WP.region ?_
  refine RG.ot rfl (OT.bslice (F := (slT (α := Rect))) (els := []) rfl El29 rfl (by decide) rfl (by decide) trivial fun v6 => ?_)
  refine RG.pv rfl (PV.asg (v := v6) rfl rfl) ?_
  refine RG.nil ?_
  refine WP.seq ?_
  refine WP.region ?_
  refine RG.pv rfl (PV.move (v := v) rfl rfl) ?_
  refine RG.callF (vs := [v]) rfl rfl En184 rfl (l24Area_s (Rs.up h1) hd.up h8 hreg (fun v8 => ?_))
  refine RG.callF (vs := [v8]) rfl rfl En84 rfl (comps_s Rs.o (zipB_len (bits_length _) (bits_length _)) (fun v9 zsv9 hzv9 => ?_))
  refine RG.pv rfl (PV.asg (v := v9) rfl rfl) ?_
  refine RG.nil ?_
  refine WP.seq ?_
  refine WP.seq ?_
  refine WP.region ?_
  refine RG.pv rfl (PV.mvI (.inr rfl) rfl) ?_
  refine RG.nil ?_
  refine WP.block ?_
  have hz : er zsv9 = comps (regC (er xs)) := by rw [hzv9, regC, er_gd, er_gd]
  have hzl : zsv9.length ≤ 6400 := by have := congrArg List.length hz; rw [er_len] at this; have h2 := comps_len (regC (er xs)); omega
  refine WP.cv ((Cv.p (C := osl 56 slT v6 ([] : List (Sl Rect)) :: osl 124 slT v9 zsv9 :: bagS 4 boolT zsv9 :: L)).trans (Cv.cons (Cv.bag0 (e := 61) (F := rectT) (xs := []) rfl))) ?_
  refine WP.loop3 [4] (fun (i : Nat) (ys : List (Sl Rect)) (q : Value) => i ≤ zsv9.length ∧ er ys = ((comps (regC (er xs))).take i).map canon) (fun (i : Nat) (ys : List (Sl Rect)) (q : Value) => [(5, vi i), (3, q)]) (fun (i : Nat) (ys : List (Sl Rect)) (q : Value) => osl 56 slT q ys :: bagS 61 rectT ys :: osl 124 slT v9 zsv9 :: bagS 4 boolT zsv9 :: L) (fun (i : Nat) (ys : List (Sl Rect)) (q : Value) => zsv9.length - i) 0 [] v6 ⟨by omega, rfl⟩ ⟨rfl, rfl, trivial⟩ Cv.p ?_
  rintro i ys q τ ⟨hi, hys⟩
  refine WP.seq ?_
  refine WP.seq ?_
  refine WP.region ?_
  refine RG.pv rfl (PV.mvI (.inl rfl) rfl) ?_
  refine RG.pv rfl (PV.move (v := v9) rfl rfl) ?_
  refine RG.pv rfl (PV.len (v := v9) rfl Tryz.underlying121 rfl SlF.o) ?_
  refine RG.pv rfl (PV.lss rfl rfl rfl) ?_
  refine RG.nil ?_
  have hyl : ys.length ≤ 6400 := by
    have := congrArg List.length hys
    rw [er_len, List.length_map, List.length_take] at this; omega
  refine WP.cond rfl (fun h4 => ?_) (fun h4 => ?_)
  · have h4 := of_decide_eq_true h4
    have hgm : (gd zsv9 i).xs ∈ comps (regC (er xs)) := by rw [← hz, ← er_gd]; exact gd_mem (by rw [er_len]; omega)
    have hl6 : (gd zsv9 i).xs.length = 6400 := comps_mem hgm
    refine WP.skip ?_
    refine WP.seq ?_
    refine WP.block ?_
    refine WP.region ?_
    refine RG.pv rfl (PV.move (v := q) rfl rfl) ?_
    refine RG.pv rfl (PV.move (v := v9) rfl rfl) ?_
    refine RG.pv rfl (PV.mvI (.inl rfl) rfl) ?_
    refine RG.pv rfl (PV.idxS (v := v9) rfl Is121 rfl SlF.o rfl rfl (by omega)) ?_
    refine RG.pv rfl (PV.loadE1 rfl Sc124 rfl rfl (El.o (getG (by omega))) rfl) ?_
    refine RG.callF (vs := [_]) rfl rfl En108 rfl (l03Canon_s (Rs.inBag (xs := zsv9) i (by omega)) hl6 (fun v21 => ?_))
    refine RG.ot rfl (OT.bslice (F := (slT (α := Rect))) (els := [⟨v21, canon (gd zsv9 i).xs⟩]) rfl El29 rfl (by decide) rfl (by decide) ⟨rfl, (Cl.s (v := v21) SlF.o), trivial⟩ fun v22 => ?_)
    refine RG.ot rfl (OT.append (v := q) (u := v22) (F := (slT (α := Rect))) rfl El29 rfl (by decide) rfl rfl Rs.o (OneL.one (OneC.sl SlF.o OneC.nil)) rfl (by first | omega | (simp <;> omega)) fun v23 => ?_)
    refine RG.pv rfl (PV.asg (v := v23) rfl rfl) ?_
    refine RG.nil ?_
    refine WP.region ?_
    refine RG.pv rfl (PV.mvI (.inl rfl) rfl) ?_
    refine RG.pv rfl (PV.add rfl rfl rfl (by omega)) ?_
    refine RG.pv rfl (PV.mvI (.inr rfl) rfl) ?_
    refine RG.nil ?_
    refine ⟨rfl, i + 1, (ys ++ [⟨v21, canon (gd zsv9 i).xs⟩]), v23, ⟨by omega, ?_⟩, ⟨rfl, rfl, trivial⟩, ⟨rfl, trivial⟩, ((Cv.p (C := osl 56 slT v23 (ys ++ [⟨v21, canon (gd zsv9 i).xs⟩]) :: osl 61 rectT v21 (canon (gd zsv9 i).xs) :: bagS 61 rectT ys :: osl 124 slT v9 zsv9 :: bagS 4 boolT zsv9 :: L)).trans (Cv.cons Cv.bagS_add)), by omega⟩
    have hg : (comps (regC (er xs)))[i]? = some (gd zsv9 i).xs := by rw [← hz, getG (by rw [er_len]; omega), er_gd]
    rw [List.take_add_one, hg, List.map_append, ← hys]; simp [er]
  · have h4 := of_decide_eq_false h4
    have e2 : er ys = partsC (er xs) := by rw [hys, List.take_of_length_le (by rw [← hz, er_len]; omega)]; rfl
    refine WP.exit ?_
    refine WP.seq ?_
    refine WP.region ?_
    refine RG.pv rfl (PV.move (v := q) rfl rfl) ?_
    refine RG.pv rfl (PV.asg (v := q) rfl rfl) ?_
    refine RG.nil ?_
    refine WP.ret ?_
    exact ⟨_, _, ResV.one rfl rfl, Cv.p, k q ys e2⟩
end Go.Proofs.YtmomfgfmnpblpaaGreat
