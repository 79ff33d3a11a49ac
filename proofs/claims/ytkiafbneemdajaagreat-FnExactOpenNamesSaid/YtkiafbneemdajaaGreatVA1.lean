/-
  The law FnExactOpenNames: whatever the layout and the labels, the law returns true and both read as before.
-/
import Derived.Test.YtkiafbneemdajaaGreatCB5
import Derived.Test.YtkiafbneemdajaaGreatRows
namespace Go.Proofs.YtkiafbneemdajaaGreat
set_option linter.unusedVariables false
set_option linter.unusedSimpArgs false
open Go Go.ChangeShapes Go.WideShapes Go.ChangeAt Go.RowKit
set_option linter.unusedSimpArgs false
set_option maxRecDepth 100000
theorem Tryz.own : ownKnob Tryz.prog.godebug = none := by kernel_rfl
theorem Tryz.laidOut : laidOutB Tryz.prog = true := by kernel_rfl
def okrectT (G : Gh) (a : Rect) : Prop := okI G a.x0 ∧ okI G a.y0 ∧ okI G a.x1 ∧ okI G a.y1
theorem opn81 : Opn Tryz.prog 81 rectT okrectT := fun {H enc w fuel cs x} h => by
  obtain ⟨xs, n, _, _, hl, hx, hf⟩ := DataW.trod_struct Tryz.underlying81 h
  rw [show Tryz.prog.cellsOf 81 = 4 by kernel_rfl] at hl
  obtain ⟨c0, c1, c2, c3, rfl⟩ : ∃ c0 c1 c2 c3, cs = [c0, c1, c2, c3] := by
    match cs, hl with
    | [c0, c1, c2, c3], _ => exact ⟨c0, c1, c2, c3, rfl⟩
  have g0 := hf 0 _ rfl
  simp only [List.getElem_toArray, List.getElem_cons_zero, List.getElem_cons_succ] at g0
  rw [show Tryz.prog.cellsOf 2 = 1 by kernel_rfl] at g0
  obtain ⟨x0, y0⟩ : ∃ x, xs[0]? = some x := ⟨_, List.getElem?_eq_getElem (by rw [hx]; decide)⟩
  rw [y0] at g0
  obtain ⟨a0, e0, o0⟩ := (opnI Tryz.underlying2) g0
  have g1 := hf 1 _ rfl
  simp only [List.getElem_toArray, List.getElem_cons_zero, List.getElem_cons_succ] at g1
  rw [show Tryz.prog.cellsOf 2 = 1 by kernel_rfl] at g1
  obtain ⟨x1, y1⟩ : ∃ x, xs[1]? = some x := ⟨_, List.getElem?_eq_getElem (by rw [hx]; decide)⟩
  rw [y1] at g1
  obtain ⟨a1, e1, o1⟩ := (opnI Tryz.underlying2) g1
  have g2 := hf 2 _ rfl
  simp only [List.getElem_toArray, List.getElem_cons_zero, List.getElem_cons_succ] at g2
  rw [show Tryz.prog.cellsOf 2 = 1 by kernel_rfl] at g2
  obtain ⟨x2, y2⟩ : ∃ x, xs[2]? = some x := ⟨_, List.getElem?_eq_getElem (by rw [hx]; decide)⟩
  rw [y2] at g2
  obtain ⟨a2, e2, o2⟩ := (opnI Tryz.underlying2) g2
  have g3 := hf 3 _ rfl
  simp only [List.getElem_toArray, List.getElem_cons_zero, List.getElem_cons_succ] at g3
  rw [show Tryz.prog.cellsOf 2 = 1 by kernel_rfl] at g3
  obtain ⟨x3, y3⟩ : ∃ x, xs[3]? = some x := ⟨_, List.getElem?_eq_getElem (by rw [hx]; decide)⟩
  rw [y3] at g3
  obtain ⟨a3, e3, o3⟩ := (opnI Tryz.underlying2) g3
  clear hf hx hl
  refine ⟨⟨a0, a1, a2, a3⟩, ?_, o0, o1, o2, o3⟩
  simp [intT] at e0 e1 e2 e3
  simp [intT, rectT, e0, e1, e2, e3]
def okptT (G : Gh) (a : Pt) : Prop := okI G a.x ∧ okI G a.y
theorem opn47 : Opn Tryz.prog 47 ptT okptT := fun {H enc w fuel cs x} h => by
  obtain ⟨xs, n, _, _, hl, hx, hf⟩ := DataW.trod_struct Tryz.underlying47 h
  rw [show Tryz.prog.cellsOf 47 = 2 by kernel_rfl] at hl
  obtain ⟨c0, c1, rfl⟩ : ∃ c0 c1, cs = [c0, c1] := by
    match cs, hl with
    | [c0, c1], _ => exact ⟨c0, c1, rfl⟩
  have g0 := hf 0 _ rfl
  simp only [List.getElem_toArray, List.getElem_cons_zero, List.getElem_cons_succ] at g0
  rw [show Tryz.prog.cellsOf 2 = 1 by kernel_rfl] at g0
  obtain ⟨x0, y0⟩ : ∃ x, xs[0]? = some x := ⟨_, List.getElem?_eq_getElem (by rw [hx]; decide)⟩
  rw [y0] at g0
  obtain ⟨a0, e0, o0⟩ := (opnI Tryz.underlying2) g0
  have g1 := hf 1 _ rfl
  simp only [List.getElem_toArray, List.getElem_cons_zero, List.getElem_cons_succ] at g1
  rw [show Tryz.prog.cellsOf 2 = 1 by kernel_rfl] at g1
  obtain ⟨x1, y1⟩ : ∃ x, xs[1]? = some x := ⟨_, List.getElem?_eq_getElem (by rw [hx]; decide)⟩
  rw [y1] at g1
  obtain ⟨a1, e1, o1⟩ := (opnI Tryz.underlying2) g1
  clear hf hx hl
  refine ⟨⟨a0, a1⟩, ?_, o0, o1⟩
  simp [intT] at e0 e1
  simp [intT, ptT, e0, e1]
def oklabelT (G : Gh) (a : Label) : Prop := okI G a.layer ∧ okptT G a.at_ ∧ okS G a.name
theorem opn49 : Opn Tryz.prog 49 labelT oklabelT := fun {H enc w fuel cs x} h => by
  obtain ⟨xs, n, _, _, hl, hx, hf⟩ := DataW.trod_struct Tryz.underlying49 h
  rw [show Tryz.prog.cellsOf 49 = 4 by kernel_rfl] at hl
  obtain ⟨c0, c1, c2, c3, rfl⟩ : ∃ c0 c1 c2 c3, cs = [c0, c1, c2, c3] := by
    match cs, hl with
    | [c0, c1, c2, c3], _ => exact ⟨c0, c1, c2, c3, rfl⟩
  have g0 := hf 0 _ rfl
  simp only [List.getElem_toArray, List.getElem_cons_zero, List.getElem_cons_succ] at g0
  rw [show Tryz.prog.cellsOf 2 = 1 by kernel_rfl] at g0
  obtain ⟨x0, y0⟩ : ∃ x, xs[0]? = some x := ⟨_, List.getElem?_eq_getElem (by rw [hx]; decide)⟩
  rw [y0] at g0
  obtain ⟨a0, e0, o0⟩ := (opnI Tryz.underlying2) g0
  have g1 := hf 1 _ rfl
  simp only [List.getElem_toArray, List.getElem_cons_zero, List.getElem_cons_succ] at g1
  rw [show Tryz.prog.cellsOf 47 = 2 by kernel_rfl] at g1
  obtain ⟨x1, y1⟩ : ∃ x, xs[1]? = some x := ⟨_, List.getElem?_eq_getElem (by rw [hx]; decide)⟩
  rw [y1] at g1
  obtain ⟨a1, e1, o1⟩ := opn47 g1
  have g2 := hf 2 _ rfl
  simp only [List.getElem_toArray, List.getElem_cons_zero, List.getElem_cons_succ] at g2
  rw [show Tryz.prog.cellsOf 9 = 1 by kernel_rfl] at g2
  obtain ⟨x2, y2⟩ : ∃ x, xs[2]? = some x := ⟨_, List.getElem?_eq_getElem (by rw [hx]; decide)⟩
  rw [y2] at g2
  obtain ⟨a2, e2, o2⟩ := (opnS Tryz.underlying9) g2
  clear hf hx hl
  refine ⟨⟨a0, a1, a2⟩, ?_, o0, o1, o2⟩
  simp [intT, ptT, strT] at e0 e1 e2
  simp [intT, labelT, ptT, strT, e0, e1, e2]
theorem openNames_lifted (os : Os) (started : os.Started) (H : Type) (enc : TypeId × Value → H) :
    ReturnsInHanded {} Tryz.checked os 4 .any (Rows.fnExactOpenNamesSpec.pre6 enc Tryz.prog Tryz.f4 [] false) (Rows.fnExactOpenNamesSpec.post enc Tryz.prog Tryz.f4 false true false false) := by
  refine law_lifted (C := Tryz.checked) Tryz.own started (by kernel_rfl) Tryz.func4 Tryz.laidOut rfl (by kernel_rfl) rfl Tryz.underlying4 (fun ds h => ?_)
    (ChangeSpec.witness6 (enc := enc) (C := Tryz.checked) false ⟨#[], #[.slice none 0 0, .slice none 0 0], []⟩ 8 (by kernel_rfl) (by kernel_rfl) (by kernel_rfl) (by kernel_rfl)) ?_
  · match ds, h with
    | [d, e], _ => rfl
  · intro W base args ds ps hval hA
    have hA : DataW.TrodAll enc Tryz.prog W 0 (fun _ => true) true Tryz.f4.params.toList args.toList ds ps := hA
    have hval : ∀ (j : Nat) t v, Tryz.f4.params[j]? = some t → args[j]? = some v → Value.okWide Tryz.prog W .any base t v := hval
    rw [Tryz.params4] at hA hval
    obtain ⟨v0, v1, d0, d1, p0, p1, rfl, rfl, rfl, h0, h1⟩ := trodAll_two hA
    obtain ⟨s, rfl, q1, q2⟩ := argSl Tryz.underlying22 (opnSl Tryz.underlying22 (opnSl Tryz.underlying44 opn81 (by kernel_rfl) (by decide)) (by kernel_rfl) (by decide)) (hval 0 _ v0 rfl rfl) h0
    obtain ⟨ls, h2, h3⟩ := argL Tryz.underlying23 (opnL Tryz.underlying23 opn49 (by kernel_rfl) (by decide)) (hval 1 _ v1 rfl rfl) h1
    exact law_OpenNames (Rs.g q1) (fun i hi => Rs.g (q2 i hi).1) (Rs.g h2) (fun i hi => (h3 i hi).2.2) ⟨rfl, Gh.le_refl _⟩
theorem openNames_holds : Rows.FnExactOpenNamesSaid :=
  OpenClaim.holds_of_wide 4 Tryz.f4 rfl rfl rfl rfl rfl rfl rfl ⟨rfl, rfl, rfl, rfl, rfl⟩ rfl rfl rfl rfl rfl (by kernel_rfl) Tryz.func4 (by kernel_rfl)
    (of_decide_eq_true (by kernel_rfl)) (by unfold Func.isWrapper; first | (rw [if_pos (by decide +kernel)]; kernel_rfl) | (rw [if_neg (by decide +kernel)]; exact ⟨rfl, rfl⟩))
    (fun os started H enc _ => openNames_lifted os started H enc)
end Go.Proofs.YtkiafbneemdajaaGreat
