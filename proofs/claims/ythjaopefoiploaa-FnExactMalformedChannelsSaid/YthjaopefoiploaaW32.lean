/-
  Contracts: the drawing of circuits.
-/
import Derived.Test.YthjaopefoiploaaW30
namespace Go.Proofs.Ythjaopefoiploaa
open Go
set_option maxRecDepth 20000
set_option linter.unusedSimpArgs false
variable {G : Gh} {L : List Ch} {R : Value → Gh → List Ch → Prop}
/-- sets of the chip -/
def Sets (ss : List (Sl Bool)) : Prop := ss.length = 8 ∧ ∀ i, i < 8 → (gd ss i).xs.length = 6400
theorem Sets.set {ss : List (Sl Bool)} (h : Sets ss) {i : Nat} {D : List Bool} (hD : D.length = 6400) : Sets (ss.set i ⟨(gd ss i).v, D⟩) := ⟨by simpa using h.1, fun j hj => by
  by_cases c : i = j
  · subst c; simp [gd, h.1, hj, hD]
  · have := h.2 j hj
    simpa [gd, List.getElem?_set, c] using this⟩
theorem Cv.putB {α : Type} {e : TypeId} {F : FT α} {zs : List (Sl α)} {ys : List α} {X : Ch} {L : List Ch} (i : Nat) (hi : i < zs.length) :
    Cv (osl e F (gd zs i).v ys :: X :: bag ((zs.map (ownS e F)).set i emp) :: L) (X :: bagS e F (zs.set i ⟨(gd zs i).v, ys⟩) :: L) :=
  (Cv.swap (A := [osl e F (gd zs i).v ys]) (B := [X])).trans (Cv.cons (Cv.bagS_put i hi))
theorem yv_bd {n : Int} (h : 0 ≤ n ∧ n < 4) : -6 ≤ gd [-4, 4, -6, (-4 : Int)] n.toNat ∧ gd [-4, 4, -6, (-4 : Int)] n.toNat ≤ 4 := by
  rcases (by omega : n = 0 ∨ n = 1 ∨ n = 2 ∨ n = 3) with rfl | rfl | rfl | rfl <;> simp [gd]
set_option maxHeartbeats 4000000 in
/-! ## layouts with circuits -/
end Go.Proofs.Ythjaopefoiploaa
