/-
  Plain: the areas of the channels and of the malformed parts add up to the channel region.
-/
import Derived.Test.YthjaopefoiploaaNets3
namespace Go.Proofs.Ythjaopefoiploaa
open Go
set_option linter.unusedSimpArgs false
set_option maxRecDepth 20000
/-- the cells of a union of sets that share no cell -/
theorem cnt_union {cs : List (List Bool)} (h6 : ∀ c ∈ cs, c.length = 6400) (hp : cs.Pairwise fun c d => ∀ y x, y < 80 → x < 80 → gb c y x = true → gb d y x = true → False) : cnt (bits (cs.map canon).flatten) = costL cnt cs := by
  rw [cnt_sum' (bits_length _), costL_congr (g := fun c => sumF (fun k => one (gd c k)) 6400) fun c hc => cnt_sum' (h6 c hc), ← sumF_costL]
  refine sumF_congr fun n hn => ?_
  have e : n / 80 * 80 + n % 80 = n := by omega
  have hp2 : cs.Pairwise fun c d => ¬ (gd c n = true ∧ gd d n = true) := hp.imp fun {c d} h ⟨h1, h2⟩ => h (n / 80) (n % 80) (by omega) (by omega) (by rw [gb, e]; exact h1) (by rw [gb, e]; exact h2)
  rw [← one_any hp2]
  congr 1
  have h1 := gb_bits' (cs.map canon).flatten (y := n / 80) (x := n % 80) (by omega) (by omega)
  rw [gb, e] at h1
  rw [h1, List.any_flatten, List.any_map]
  rw [Bool.eq_iff_iff, List.any_eq_true, List.any_eq_true]
  constructor
  · rintro ⟨c, hc, h⟩
    refine ⟨c, hc, ?_⟩
    have h2 := gb_bits' (canon c) (y := n / 80) (x := n % 80) (by omega) (by omega)
    rw [bits_canon (h6 c hc), gb, e] at h2
    rw [h2]; exact h
  · rintro ⟨c, hc, h⟩
    refine ⟨c, hc, ?_⟩
    have h2 := gb_bits' (canon c) (y := n / 80) (x := n % 80) (by omega) (by omega)
    rw [bits_canon (h6 c hc), gb, e] at h2
    show ((canon c).any fun r => inR r (n / 80) (n % 80)) = true
    rw [← h2]; exact h
theorem costL_filter {α : Type} (f : α → Int) (p : α → Bool) : ∀ xs : List α, costL f (xs.filter p) + costL f (xs.filter fun x => !p x) = costL f xs
  | [] => by simp [costL]
  | x :: xs => by
    have ih := costL_filter f p xs
    cases hp : p x <;> simp [hp, costL] <;> omega
theorem partsC_cnt (l : List (List Rect)) : costL areaS (partsC l) = cnt (regC l) := by
  rw [partsC, partsL, costL_map, ← comps_cnt (regC_len l)]
  exact costL_congr fun c hc => cnt_canon (comps_mem hc)
theorem malf_cnt (l : List (List Rect)) : cnt (bits (malf l).flatten) = costL areaS (malf l) := by
  have e : malf l = ((comps (regC l)).filter fun c => !isCh l (canon c)).map canon := by
    rw [malf, partsC, partsL, List.filter_map]; rfl
  have hs : (((comps (regC l)).filter fun c => !isCh l (canon c))).Sublist (comps (regC l)) := List.filter_sublist
  rw [e, cnt_union (fun c hc => comps_mem (hs.subset hc)) ((comps_apart (regC l)).sublist hs), costL_map]
  exact costL_congr fun c hc => (cnt_canon (comps_mem (hs.subset hc))).symm
theorem chans_cnt (l : List (List Rect)) : costL (fun c : Chan => areaR c.box) (chans l) = costL areaS ((partsC l).filter (isCh l)) := by
  rw [chans, costL_map]
  refine costL_congr fun g hg => ?_
  obtain ⟨h1, h2⟩ := List.mem_filter.1 hg
  have hl := (chan_kind (partsC_ne h1).1 (partsC_ne h1).2 h2).1
  obtain ⟨r, rfl⟩ : ∃ r, g = [r] := List.length_eq_one_iff.1 hl
  simp [mkCh, gd, areaS]
theorem chan_areas (l : List (List Rect)) : costL (fun c : Chan => areaR c.box) (chans l) + cnt (bits (malf l).flatten) = cnt (regC l) := by
  rw [chans_cnt, malf_cnt, malf, costL_filter, partsC_cnt]
end Go.Proofs.Ythjaopefoiploaa
