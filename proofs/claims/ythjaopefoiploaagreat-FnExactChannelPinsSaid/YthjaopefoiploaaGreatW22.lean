/-
  Contracts: rectangles that meet; joined pieces; the classes of pieces and their numbers.
-/
import Derived.Test.YthjaopefoiploaaGreatNets
namespace Go.Proofs.YthjaopefoiploaaGreat
open Go
set_option maxRecDepth 20000
set_option linter.unusedSimpArgs false
variable {G : Gh} {L : List Ch} {R : Value → Gh → List Ch → Prop}
theorem WP.cut4 {P : Program} {n : Nat} {Q : Post} {σ : Nat → Value} {x y : Code} {A B D E : Type} (keep : List Nat) (J : A → B → D → E → Prop) (S : A → B → D → E → List (Nat × Value)) (C : A → B → D → E → List Ch)
    (h : WP P n x (thenP (fun σ' G' L' => G' = G ∧ ∃ a b d e, J a b d e ∧ HasV σ' (S a b d e) ∧ Keeps σ' σ keep ∧ Cv L' (C a b d e)) Q) σ G L)
    (k : ∀ a b d e τ, J a b d e → WP P n y Q (upds (updk τ σ keep) (S a b d e)) G (C a b d e)) : WP P n (.seq x y) Q σ G L :=
  WP.cut1 keep (A := A × B × D × E) (fun x => J x.1 x.2.1 x.2.2.1 x.2.2.2) (fun x => S x.1 x.2.1 x.2.2.1 x.2.2.2) (fun x => C x.1 x.2.1 x.2.2.1 x.2.2.2) (WP.mono h fun e σ G L hq => by
      cases e with
      | normal => obtain ⟨e, a', b', d', e', h⟩ := hq; exact ⟨e, (a', b', d', e'), h⟩
      | _ => exact hq) fun a τ j => k a.1 a.2.1 a.2.2.1 a.2.2.2 τ j
theorem common_s {a b : Rect} (k : R (vrect (cmn a b)) G L) : CallT Tryz.prog 190 #[vrect a, vrect b] G L R := by
  refine CallT.enter (args := _) Tryz.func190 rfl rfl (by kernel_rfl) rfl ?_
  refine WP.seq ?_
  refine WP.region ?_
  refine RG.ot rfl (OT.box (cs := rectT.enc a) rfl rfl rfl fun b2 => ?_)
  refine RG.ot rfl (OT.box (cs := rectT.enc b) rfl rfl rfl fun b3 => ?_)
  refine RG.ot rfl (OT.alloc rfl Zr59 fun b4 => ?_)
  refine RG.nil ?_
  refine WP.seq ?_
  refine WP.region ?_
  refine RG.pv rfl (PV.field rfl Fo59_0 rfl) ?_
  refine RG.pv rfl (PV.load1 rfl Sc2 rfl (Rd.blk rfl)) ?_
  refine RG.pv rfl (PV.field rfl Fo59_0 rfl) ?_
  refine RG.pv rfl (PV.load1 rfl Sc2 rfl (Rd.blk rfl)) ?_
  refine RG.pv rfl (PV.max2 rfl rfl rfl) ?_
  refine RG.pv rfl (PV.field rfl Fo59_1 rfl) ?_
  refine RG.pv rfl (PV.load1 rfl Sc2 rfl (Rd.blk rfl)) ?_
  refine RG.pv rfl (PV.field rfl Fo59_1 rfl) ?_
  refine RG.pv rfl (PV.load1 rfl Sc2 rfl (Rd.blk rfl)) ?_
  refine RG.pv rfl (PV.max2 rfl rfl rfl) ?_
  refine RG.pv rfl (PV.field rfl Fo59_2 rfl) ?_
  refine RG.pv rfl (PV.load1 rfl Sc2 rfl (Rd.blk rfl)) ?_
  refine RG.pv rfl (PV.field rfl Fo59_2 rfl) ?_
  refine RG.pv rfl (PV.load1 rfl Sc2 rfl (Rd.blk rfl)) ?_
  refine RG.pv rfl (PV.min2 rfl rfl rfl) ?_
  refine RG.pv rfl (PV.field rfl Fo59_3 rfl) ?_
  refine RG.pv rfl (PV.load1 rfl Sc2 rfl (Rd.blk rfl)) ?_
  refine RG.pv rfl (PV.field rfl Fo59_3 rfl) ?_
  refine RG.pv rfl (PV.load1 rfl Sc2 rfl (Rd.blk rfl)) ?_
  refine RG.pv rfl (PV.min2 rfl rfl rfl) ?_
  refine RG.pv rfl (PV.build (vs := [(0, [vi _]), (1, [vi _]), (2, [vi _]), (3, [vi _])]) (out := [_, _, _, _]) rfl Zr59 Pl59 ⟨rfl, (Cl.c rfl), ⟨rfl, (Cl.c rfl), ⟨rfl, (Cl.c rfl), ⟨rfl, (Cl.c rfl), trivial⟩⟩⟩⟩ rfl) ?_
  refine RG.ot rfl (OT.storeW (vs := [vi _, vi _, vi _, vi _]) rfl Sz59 rfl rfl (Cl.c rfl) rfl rfl (OneC.c rfl) ?_)
  refine RG.nil ?_
  refine WP.ret ?_
  exact ⟨_, _, ResV.one rfl (RV1.cell rfl Ag59 rfl), Cv.p, k⟩
theorem ovl_s {a b : Rect} (k : R (.bool (ovl a b)) G L) : CallT Tryz.prog 226 #[vrect a, vrect b] G L R := by
  refine CallT.enter (args := _) Tryz.func226 rfl rfl (by kernel_rfl) rfl ?_
  refine WP.seq ?_
  refine WP.region ?_
  refine RG.ot rfl (OT.box (cs := rectT.enc a) rfl rfl rfl fun b2 => ?_)
  refine RG.ot rfl (OT.box (cs := rectT.enc b) rfl rfl rfl fun b3 => ?_)
  refine RG.pv rfl (PV.mvB (.inr rfl) rfl) ?_
  refine RG.nil ?_
  refine WP.seq ?_
  refine WP.region ?_
  refine RG.pv rfl (PV.loadW rfl Ag59 rfl rfl) ?_
  refine RG.callF (vs := [_]) rfl rfl En191 rfl (validRect_s ?_)
  refine RG.pv rfl (PV.mvB (.inl rfl) rfl) ?_
  refine RG.gs rfl rfl rfl (fun hp => (PV.loadW rfl Ag59 rfl rfl)) ?_
  refine RG.gsC rfl rfl rfl rfl En191 (fun hp => ⟨_, (acons (gs_t hp) anil), validRect_s ⟨rfl, rfl, rfl⟩⟩) ?_
  refine RG.pv rfl (PV.pickA rfl rfl (fun hq => gs_t (geqT hq)) rfl) ?_
  refine RG.pv rfl (PV.mvB (.inl rfl) rfl) ?_
  refine RG.gs rfl rfl rfl (fun hp => (PV.loadW rfl Ag59 rfl rfl)) ?_
  refine RG.gs rfl rfl rfl (fun hp => (PV.loadW rfl Ag59 rfl rfl)) ?_
  refine RG.gsC rfl rfl rfl rfl En190 (fun hp => ⟨_, (acons (gs_t hp) (acons (gs_t hp) anil)), common_s ⟨rfl, rfl, rfl⟩⟩) ?_
  refine RG.gsC rfl rfl rfl rfl En191 (fun hp => ⟨_, (acons (gs_t hp) anil), validRect_s ⟨rfl, rfl, rfl⟩⟩) ?_
  refine RG.pv rfl (PV.pickA rfl rfl (fun hq => gs_t (geqT hq)) rfl) ?_
  refine RG.pv rfl (PV.mvB (.inr rfl) rfl) ?_
  refine RG.nil ?_
  refine WP.ret ?_
  exact ⟨_, _, ResV.one rfl rfl, Cv.p, k⟩
theorem gd_mem {α : Type} [Inhabited α] {xs : List α} {i : Nat} (h : i < xs.length) : gd xs i ∈ xs := by rw [gd_eq h]; exact List.getElem_mem h
theorem any2_false {α : Type} [Inhabited α] {p : α → α → Bool} {xs ys : List α} (h : ∀ i, i < xs.length → ∀ j, j < ys.length → p (gd xs i) (gd ys j) = false) : (xs.any fun x => ys.any fun y => p x y) = false := by
  rw [List.any_eq_false]
  intro x hx
  obtain ⟨i, hi, rfl⟩ := List.getElem_of_mem hx
  rw [Bool.not_eq_true, List.any_eq_false]
  intro y hy
  obtain ⟨j, hj, rfl⟩ := List.getElem_of_mem hy
  have := h i hi j hj
  rw [gd_eq hi, gd_eq hj] at this; simp [this]
theorem any2_true {α : Type} [Inhabited α] {p : α → α → Bool} {xs ys : List α} {i j : Nat} (hi : i < xs.length) (hj : j < ys.length) (h : p (gd xs i) (gd ys j) = true) : (xs.any fun x => ys.any fun y => p x y) = true := by
  simp only [List.any_eq_true]
  exact ⟨gd xs i, gd_mem hi, gd ys j, gd_mem hj, h⟩
theorem row_next {p : Nat → Nat → Bool} {i m : Nat} (h : ∀ a, a < i → ∀ b, b < m → p a b = false) (h2 : ∀ b, b < m → p i b = false) : ∀ a, a < i + 1 → ∀ b, b < m → p a b = false := fun a ha b hb => by
  by_cases e : a = i
  · subst e; exact h2 b hb
  · exact h a (by omega) b hb
theorem col_next {p : Nat → Bool} {j : Nat} (h : ∀ b, b < j → p b = false) (h2 : p j = false) : ∀ b, b < j + 1 → p b = false := fun b hb => by
  by_cases e : b = j
  · subst e; exact h2
  · exact h b (by omega)
theorem meet_s {v u : Value} {xs ys : List Rect} (h1 : Rs G L rectT v xs) (h2 : Rs G L rectT u ys) (k : R (.bool (meetB xs ys)) G L) : CallT Tryz.prog 219 #[v, u] G L R := by
  refine CallT.bd h1 fun hb => ?_
  refine CallT.bd h2 fun hb' => ?_
  refine CallT.enter (args := _) Tryz.func219 rfl rfl (by kernel_rfl) rfl ?_
  refine WP.seq ?_
  refine WP.region ?_
  refine RG.pv rfl (PV.mvB (.inr rfl) rfl) ?_
  refine RG.nil ?_
  refine WP.seq ?_
  refine WP.seq ?_
  refine WP.region ?_
  refine RG.pv rfl (PV.move (v := v) rfl rfl) ?_
  refine RG.pv rfl (PV.len (v := v) rfl Tryz.underlying66 rfl (SlF.r h1)) ?_
  refine RG.pv rfl (PV.mvI (.inl rfl) rfl) ?_
  refine RG.nil ?_
  refine WP.block ?_
  refine WP.loop1 [1, 9, 10] (fun i => i ≤ xs.length ∧ ∀ p, p < i → ∀ q, q < ys.length → ovl (gd xs p) (gd ys q) = false) (fun i => [(11, vi i)]) (fun i => L) (fun i => xs.length - i) 0 ⟨by omega, fun p h => by omega⟩ ⟨rfl, trivial⟩ Cv.p ?_
  rintro i τ ⟨hi, hn⟩
  refine WP.seq ?_
  refine WP.region ?_
  refine RG.pv rfl (PV.lss rfl rfl rfl) ?_
  refine RG.nil ?_
  refine WP.seq ?_
  refine WP.cond rfl (fun h3 => ?_) (fun h3 => ?_)
  · have h3 := of_decide_eq_true h3
    refine WP.skip ?_
    refine WP.seq ?_
    refine WP.block ?_
    refine WP.seq ?_
    refine WP.region ?_
    refine RG.pv rfl (PV.idxS (v := v) rfl Is66 rfl (SlF.r h1) rfl rfl (by omega)) ?_
    refine RG.pv rfl (PV.loadE rfl Ag59 rfl rfl (El.r h1 (getG (by omega)))) ?_
    refine RG.ot rfl (OT.alloc rfl Zr59 fun b6 => ?_)
    refine RG.ot rfl (OT.storeW (vs := [vi _, vi _, vi _, vi _]) rfl Sz59 rfl rfl (Cl.c rfl) rfl rfl (OneC.c rfl) ?_)
    refine RG.nil ?_
    refine WP.seq ?_
    refine WP.region ?_
    refine RG.pv rfl (PV.move (v := u) rfl rfl) ?_
    refine RG.pv rfl (PV.len (v := u) rfl Tryz.underlying66 rfl (SlF.r h2)) ?_
    refine RG.pv rfl (PV.mvI (.inl rfl) rfl) ?_
    refine RG.nil ?_
    refine WP.block ?_
    refine WP.loop1 [1, 6, 9, 10, 11, 15, 16] (fun j => j ≤ ys.length ∧ ∀ q, q < j → ovl (gd xs i) (gd ys q) = false) (fun j => [(17, vi j)]) (fun j => blk b6 59 (rectT.enc (gd xs i)) :: L) (fun j => ys.length - j) 0 ⟨by omega, fun q h => by omega⟩ ⟨rfl, trivial⟩ Cv.p ?_
    rintro j τ1 ⟨hj, hm⟩
    refine WP.seq ?_
    refine WP.region ?_
    refine RG.pv rfl (PV.lss rfl rfl rfl) ?_
    refine RG.nil ?_
    refine WP.seq ?_
    refine WP.cond rfl (fun h4 => ?_) (fun h4 => ?_)
    · have h4 := of_decide_eq_true h4
      refine WP.skip ?_
      refine WP.seq ?_
      refine WP.block ?_
      refine WP.seq ?_
      refine WP.region ?_
      refine RG.pv rfl (PV.idxS (v := u) rfl Is66 rfl (SlF.r h2) rfl rfl (by omega)) ?_
      refine RG.pv rfl (PV.loadE rfl Ag59 rfl rfl (El.r h2 (getG (by omega)))) ?_
      refine RG.ot rfl (OT.alloc rfl Zr59 fun b8 => ?_)
      refine RG.ot rfl (OT.storeW (vs := [vi _, vi _, vi _, vi _]) rfl Sz59 rfl rfl (Cl.c rfl) rfl rfl (OneC.c rfl) ?_)
      refine RG.nil ?_
      refine WP.seq ?_
      refine WP.region ?_
      refine RG.pv rfl (PV.loadW rfl Ag59 rfl rfl) ?_
      refine RG.pv rfl (PV.loadW rfl Ag59 rfl rfl) ?_
      refine RG.callF (vs := [_, _]) rfl rfl En226 rfl (ovl_s ?_)
      refine RG.nil ?_
      refine WP.cond rfl (fun h5 => ?_) (fun h5 => ?_)
      · have e : meetB xs ys = true := any2_true (i := i) (j := j) (by omega) (by omega) h5
        rw [e] at k
        refine WP.seq ?_
        refine WP.region ?_
        refine RG.pv rfl (PV.mvB (.inr rfl) rfl) ?_
        refine RG.nil ?_
        refine WP.ret ?_
        exact ⟨_, _, ResV.one rfl rfl, Cv.p, k⟩
      · refine WP.skip ?_
        refine WP.region ?_
        refine RG.pv rfl (PV.add rfl rfl rfl (by omega)) ?_
        refine RG.pv rfl (PV.mvI (.inl rfl) rfl) ?_
        refine RG.nil ?_
        exact ⟨rfl, j + 1, ⟨by omega, col_next hm h5⟩, ⟨rfl, trivial⟩, ⟨rfl, rfl, rfl, rfl, rfl, rfl, rfl, trivial⟩, Cv.p, by omega⟩
    · have h4 := of_decide_eq_false h4
      obtain rfl : j = ys.length := by omega
      refine WP.exit ?_
      refine WP.region ?_
      refine RG.pv rfl (PV.add rfl rfl rfl (by omega)) ?_
      refine RG.pv rfl (PV.mvI (.inl rfl) rfl) ?_
      refine RG.nil ?_
      exact ⟨rfl, i + 1, ⟨by omega, row_next (p := fun a b => ovl (gd xs a) (gd ys b)) hn hm⟩, ⟨rfl, trivial⟩, ⟨rfl, rfl, rfl, trivial⟩, Cv.p, by omega⟩
  · have h3 := of_decide_eq_false h3
    obtain rfl : i = xs.length := by omega
    have e : meetB xs ys = false := any2_false hn
    rw [e] at k
    refine WP.exit ?_
    refine WP.seq ?_
    refine WP.region ?_
    refine RG.pv rfl (PV.mvB (.inr rfl) rfl) ?_
    refine RG.nil ?_
    refine WP.ret ?_
    exact ⟨_, _, ResV.one rfl rfl, Cv.p, k⟩
theorem meetIn_s {v u w : Value} {xs ys zs : List Rect} (h1 : Rs G L rectT v xs) (h2 : Rs G L rectT u ys) (h3 : Rs G L rectT w zs) (k : R (.bool (meetIn xs ys zs)) G L) : CallT Tryz.prog 194 #[v, u, w] G L R := by
  refine CallT.bd h1 fun hb => ?_
  refine CallT.bd h2 fun hb' => ?_
  refine CallT.enter (args := _) Tryz.func194 rfl rfl (by kernel_rfl) rfl ?_
  refine WP.seq ?_
  refine WP.region ?_
  refine RG.pv rfl (PV.mvB (.inr rfl) rfl) ?_
  refine RG.nil ?_
  refine WP.seq ?_
  refine WP.seq ?_
  refine WP.region ?_
  refine RG.pv rfl (PV.move (v := v) rfl rfl) ?_
  refine RG.pv rfl (PV.len (v := v) rfl Tryz.underlying66 rfl (SlF.r h1)) ?_
  refine RG.pv rfl (PV.mvI (.inl rfl) rfl) ?_
  refine RG.nil ?_
  refine WP.block ?_
  refine WP.loop1 [1, 2, 12, 13] (fun i => i ≤ xs.length ∧ ∀ p, p < i → ∀ q, q < ys.length → (validRect (cmn (gd xs p) (gd ys q)) && meetB [cmn (gd xs p) (gd ys q)] zs) = false) (fun i => [(14, vi i)]) (fun i => L) (fun i => xs.length - i) 0 ⟨by omega, fun p h => by omega⟩ ⟨rfl, trivial⟩ Cv.p ?_
  rintro i τ ⟨hi, hn⟩
  refine WP.seq ?_
  refine WP.region ?_
  refine RG.pv rfl (PV.lss rfl rfl rfl) ?_
  refine RG.nil ?_
  refine WP.seq ?_
  refine WP.cond rfl (fun h4 => ?_) (fun h4 => ?_)
  · have h4 := of_decide_eq_true h4
    refine WP.skip ?_
    refine WP.seq ?_
    refine WP.block ?_
    refine WP.seq ?_
    refine WP.region ?_
    refine RG.pv rfl (PV.idxS (v := v) rfl Is66 rfl (SlF.r h1) rfl rfl (by omega)) ?_
    refine RG.pv rfl (PV.loadE rfl Ag59 rfl rfl (El.r h1 (getG (by omega)))) ?_
    refine RG.ot rfl (OT.alloc rfl Zr59 fun b8 => ?_)
    refine RG.ot rfl (OT.storeW (vs := [vi _, vi _, vi _, vi _]) rfl Sz59 rfl rfl (Cl.c rfl) rfl rfl (OneC.c rfl) ?_)
    refine RG.nil ?_
    refine WP.seq ?_
    refine WP.region ?_
    refine RG.pv rfl (PV.move (v := u) rfl rfl) ?_
    refine RG.pv rfl (PV.len (v := u) rfl Tryz.underlying66 rfl (SlF.r h2)) ?_
    refine RG.pv rfl (PV.mvI (.inl rfl) rfl) ?_
    refine RG.nil ?_
    refine WP.block ?_
    refine WP.loop1 [1, 2, 8, 12, 13, 14, 18, 19] (fun j => j ≤ ys.length ∧ ∀ q, q < j → (validRect (cmn (gd xs i) (gd ys q)) && meetB [cmn (gd xs i) (gd ys q)] zs) = false) (fun j => [(20, vi j)]) (fun j => blk b8 59 (rectT.enc (gd xs i)) :: L) (fun j => ys.length - j) 0 ⟨by omega, fun q h => by omega⟩ ⟨rfl, trivial⟩ Cv.p ?_
    rintro j τ1 ⟨hj, hm⟩
    refine WP.seq ?_
    refine WP.region ?_
    refine RG.pv rfl (PV.lss rfl rfl rfl) ?_
    refine RG.nil ?_
    refine WP.seq ?_
    refine WP.cond rfl (fun h5 => ?_) (fun h5 => ?_)
    · have h5 := of_decide_eq_true h5
      refine WP.skip ?_
      refine WP.seq ?_
      refine WP.block ?_
      refine WP.seq ?_
      refine WP.region ?_
      refine RG.pv rfl (PV.idxS (v := u) rfl Is66 rfl (SlF.r h2) rfl rfl (by omega)) ?_
      refine RG.pv rfl (PV.loadE rfl Ag59 rfl rfl (El.r h2 (getG (by omega)))) ?_
      refine RG.ot rfl (OT.alloc rfl Zr59 fun b10 => ?_)
      refine RG.ot rfl (OT.storeW (vs := [vi _, vi _, vi _, vi _]) rfl Sz59 rfl rfl (Cl.c rfl) rfl rfl (OneC.c rfl) ?_)
      refine RG.nil ?_
      refine WP.seq ?_
      refine WP.region ?_
      refine RG.pv rfl (PV.loadW rfl Ag59 rfl rfl) ?_
      refine RG.pv rfl (PV.loadW rfl Ag59 rfl rfl) ?_
      refine RG.callF (vs := [_, _]) rfl rfl En190 rfl (common_s ?_)
      refine RG.ot rfl (OT.alloc rfl Zr59 fun b11 => ?_)
      refine RG.ot rfl (OT.storeW (vs := [vi _, vi _, vi _, vi _]) rfl Sz59 rfl rfl (Cl.c rfl) rfl rfl (OneC.c rfl) ?_)
      refine RG.nil ?_
      refine WP.seq ?_
      refine WP.region ?_
      refine RG.pv rfl (PV.loadW rfl Ag59 rfl rfl) ?_
      refine RG.callF (vs := [_]) rfl rfl En191 rfl (validRect_s ?_)
      refine RG.pv rfl (PV.mvB (.inl rfl) rfl) ?_
      refine RG.spl (t := 29) rfl (fun h6 => ?_) (fun h6 => ?_)
      · refine RG.take rfl rfl rfl h6 ?_
        refine RG.pv rfl (PV.loadW rfl Ag59 rfl rfl) ?_
        refine RG.take rfl rfl rfl h6 ?_
        refine RG.ot rfl (OT.bslice (F := rectT) (els := [_]) rfl El66 rfl (by decide) rfl (by decide) ⟨rfl, (Cl.c rfl), trivial⟩ fun v31 => ?_)
        refine RG.take rfl rfl rfl h6 ?_
        refine RG.pv rfl (PV.move (v := w) rfl rfl) ?_
        refine RG.take rfl rfl rfl h6 ?_
        refine RG.callF (vs := [v31, w]) rfl rfl En219 rfl (meet_s Rs.o (Rs.up h3) ?_)
        refine RG.pv rfl (PV.pickT rfl rfl h6 rfl) ?_
        refine RG.nil ?_
        refine WP.cond rfl (fun h7 => ?_) (fun h7 => ?_)
        · have e : meetIn xs ys zs = true := any2_true (p := fun x y => validRect (cmn x y) && meetB [cmn x y] zs) (i := i) (j := j) (by omega) (by omega) (by rw [h6]; exact h7)
          rw [e] at k
          refine WP.seq ?_
          refine WP.region ?_
          refine RG.pv rfl (PV.mvB (.inr rfl) rfl) ?_
          refine RG.nil ?_
          refine WP.ret ?_
          exact ⟨_, _, ResV.one rfl rfl, Cv.p, k⟩
        · refine WP.skip ?_
          refine WP.region ?_
          refine RG.pv rfl (PV.add rfl rfl rfl (by omega)) ?_
          refine RG.pv rfl (PV.mvI (.inl rfl) rfl) ?_
          refine RG.nil ?_
          exact ⟨rfl, j + 1, ⟨by omega, col_next hm (by rw [h6]; exact h7)⟩, ⟨rfl, trivial⟩, ⟨rfl, rfl, rfl, rfl, rfl, rfl, rfl, rfl, trivial⟩, Cv.p, by omega⟩
      · refine RG.skip rfl rfl rfl (gne h6) ?_
        refine RG.skip rfl rfl rfl (gne h6) ?_
        refine RG.skip rfl rfl rfl (gne h6) ?_
        refine RG.skip rfl rfl rfl (gne h6) ?_
        refine RG.pv rfl (PV.pickE rfl rfl h6 rfl) ?_
        refine RG.nil ?_
        refine WP.cond rfl (fun h7 => ?_) (fun h7 => ?_)
        · cases h7
        · refine WP.skip ?_
          refine WP.region ?_
          refine RG.pv rfl (PV.add rfl rfl rfl (by omega)) ?_
          refine RG.pv rfl (PV.mvI (.inl rfl) rfl) ?_
          refine RG.nil ?_
          exact ⟨rfl, j + 1, ⟨by omega, col_next hm (by rw [h6]; rfl)⟩, ⟨rfl, trivial⟩, ⟨rfl, rfl, rfl, rfl, rfl, rfl, rfl, rfl, trivial⟩, Cv.p, by omega⟩
    · have h5 := of_decide_eq_false h5
      obtain rfl : j = ys.length := by omega
      refine WP.exit ?_
      refine WP.region ?_
      refine RG.pv rfl (PV.add rfl rfl rfl (by omega)) ?_
      refine RG.pv rfl (PV.mvI (.inl rfl) rfl) ?_
      refine RG.nil ?_
      exact ⟨rfl, i + 1, ⟨by omega, row_next (p := fun a b => validRect (cmn (gd xs a) (gd ys b)) && meetB [cmn (gd xs a) (gd ys b)] zs) hn hm⟩, ⟨rfl, trivial⟩, ⟨rfl, rfl, rfl, rfl, trivial⟩, Cv.p, by omega⟩
  · have h4 := of_decide_eq_false h4
    obtain rfl : i = xs.length := by omega
    have e : meetIn xs ys zs = false := any2_false (p := fun x y => validRect (cmn x y) && meetB [cmn x y] zs) hn
    rw [e] at k
    refine WP.exit ?_
    refine WP.seq ?_
    refine WP.region ?_
    refine RG.pv rfl (PV.mvB (.inr rfl) rfl) ?_
    refine RG.nil ?_
    refine WP.ret ?_
    exact ⟨_, _, ResV.one rfl rfl, Cv.p, k⟩
