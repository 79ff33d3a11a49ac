/-
  The law FnLabelNets: whatever the code, the law returns true and the code reads as before.
-/
import Derived.Test.YtmomfgfmnpblpaaGreatMF3
import Derived.ProofKit
import Derived.Deep.Slices
import Derived.Carry
import Derived.Test.YtmomfgfmnpblpaaGreatRows
namespace Go.Proofs.YtmomfgfmnpblpaaGreat
set_option linter.unusedVariables false
set_option linter.unusedSimpArgs false
open Go
set_option maxRecDepth 20000
set_option linter.unusedSimpArgs false
variable {G : Gh} {L : List Ch} {R : Value → Gh → List Ch → Prop}
section
set_option linter.unusedSectionVars false
variable {α β : Type} [DecidableEq α] [DecidableEq β]
def fM (κ : Nat → α) (ν : Nat → β) (ok : Nat → Bool) : Nat → List (α × β)
  | 0 => []
  | i + 1 => if ok i = true ∧ mget (fM κ ν ok i) (κ i) = none then fM κ ν ok i ++ [(κ i, ν i)] else fM κ ν ok i
def oM (κ : Nat → α) (ν : Nat → β) (ok : Nat → Bool) : Nat → List α
  | 0 => []
  | i + 1 => if ok i = true ∧ ∃ w, mget (fM κ ν ok i) (κ i) = some w ∧ w ≠ ν i then oM κ ν ok i ++ [κ i] else oM κ ν ok i
variable {κ : Nat → α} {ν : Nat → β} {ok : Nat → Bool}
theorem mget_app (es : List (α × β)) (a : α) (b : β) (k : α) : mget (es ++ [(a, b)]) k = match mget es k with | some w => some w | none => if a = k then some b else none := by
  unfold mget
  rw [List.find?_append]
  cases h : es.find? (fun e => decide (e.1 = k)) with
  | some w => simp
  | none => by_cases c : a = k <;> simp [c]
theorem fM_get : ∀ (n : Nat) (k : α), (mget (fM κ ν ok n) k = none ∧ ∀ j, j < n → ok j = true → κ j ≠ k) ∨ ∃ j, j < n ∧ ok j = true ∧ κ j = k ∧ mget (fM κ ν ok n) k = some (ν j)
  | 0, k => .inl ⟨rfl, fun j h => absurd h (Nat.not_lt_zero j)⟩
  | n + 1, k => by
    rw [fM]
    rcases fM_get n k with ⟨h1, h2⟩ | ⟨j, h1, h2, h3, h4⟩
    · by_cases c : ok n = true ∧ mget (fM κ ν ok n) (κ n) = none
      · rw [if_pos c, mget_app, h1]
        by_cases e : κ n = k
        · exact .inr ⟨n, by omega, c.1, e, by simp [e]⟩
        · refine .inl ⟨by simp [e], fun j hj ho => ?_⟩
          by_cases q : j = n
          · rw [q]; exact e
          · exact h2 j (by omega) ho
      · rw [if_neg c]
        refine .inl ⟨h1, fun j hj ho => ?_⟩
        by_cases q : j = n
        · subst q
          intro e
          exact c ⟨ho, by rw [e]; exact h1⟩
        · exact h2 j (by omega) ho
    · refine .inr ⟨j, by omega, h2, h3, ?_⟩
      split
      · rw [mget_app, h4]
      · exact h4
theorem fM_mono {m : Nat} {k : α} {w : β} (h : mget (fM κ ν ok m) k = some w) : ∀ n, m ≤ n → mget (fM κ ν ok n) k = some w := by
  intro n hn
  induction n with
  | zero => obtain rfl : m = 0 := by omega
            exact h
  | succ n ih =>
    by_cases e : m = n + 1
    · rw [← e]; exact h
    · have := ih (by omega)
      rw [fM]; split
      · rw [mget_app, this]
      · exact this
theorem oM_len : ∀ n, (oM κ ν ok n).length ≤ n
  | 0 => Nat.le_refl _
  | n + 1 => by
    have := oM_len n
    rw [oM]; split
    · simp; omega
    · omega
theorem oM_iff (n : Nat) : oM κ ν ok n ≠ [] ↔ ∃ i, i < n ∧ ∃ j, j < i ∧ ok i = true ∧ ok j = true ∧ κ i = κ j ∧ ν i ≠ ν j := by
  constructor
  · intro h
    induction n with
    | zero => exact absurd rfl h
    | succ n ih =>
      rw [oM] at h
      split at h
      · next c =>
        obtain ⟨ho, w, hw, hne⟩ := c
        rcases fM_get (κ := κ) (ν := ν) (ok := ok) n (κ n) with ⟨h1, _⟩ | ⟨j, h1, h2, h3, h4⟩
        · rw [h1] at hw; cases hw
        · rw [h4] at hw; cases hw
          exact ⟨n, by omega, j, h1, ho, h2, h3.symm, fun e => hne e.symm⟩
      · obtain ⟨i, hi, r⟩ := ih h
        exact ⟨i, by omega, r⟩
  · rintro ⟨i, hi, j, hj, h1, h2, h3, h4⟩
    have mono : ∀ m, (∃ i, i < m ∧ ok i = true ∧ ∃ w, mget (fM κ ν ok i) (κ i) = some w ∧ w ≠ ν i) → oM κ ν ok m ≠ [] := by
      intro m
      induction m with
      | zero => rintro ⟨i, hi, _⟩; exact absurd hi (Nat.not_lt_zero i)
      | succ m ih =>
        rintro ⟨i, hi, r⟩
        rw [oM]
        split
        · simp
        · next c =>
          apply ih
          by_cases e : i = m
          · subst e; exact absurd r c
          · exact ⟨i, by omega, r⟩
    apply mono
    rcases fM_get (κ := κ) (ν := ν) (ok := ok) i (κ i) with ⟨g1, g2⟩ | ⟨f, g1, g2, g3, g4⟩
    · exact absurd h3.symm (g2 j hj h2)
    · by_cases e : ν f = ν i
      · cases hm : mget (fM κ ν ok j) (κ j) with
        | none =>
          have h5 : mget (fM κ ν ok (j + 1)) (κ j) = some (ν j) := by rw [fM, if_pos ⟨h2, hm⟩, mget_app, hm]; simp
          have h6 := fM_mono h5 i (by omega)
          rw [← h3, g4] at h6
          exact absurd (e.symm.trans (Option.some.inj h6)) h4
        | some w =>
          have h6 := fM_mono hm i (by omega)
          rw [← h3, g4] at h6
          have h7 : w = ν i := (Option.some.inj h6).symm.trans e
          exact ⟨j, by omega, h2, w, hm, fun c => h4 (h7.symm.trans c)⟩
      · exact ⟨i, hi, h1, _, g4, e⟩
end
theorem insInner_size {α : Type} [Inhabited α] {lt : α → α → Bool} {a : Nat} : ∀ (j : Nat) (d : Array α), (Sort.insInner lt a j d).size = d.size
  | 0, _ => rfl
  | j + 1, d => by
    rw [Sort.insInner]; split
    · rw [insInner_size j]; simp [Sort.swp]
    · rfl
theorem insOuter_size {α : Type} [Inhabited α] {lt : α → α → Bool} {a b : Nat} : ∀ (m i : Nat) (d : Array α), b - i = m → (Sort.insOuter lt a b i d).size = d.size
  | 0, i, d, h => by rw [insOuter_f (by omega)]
  | m + 1, i, d, h => by rw [insOuter_t (by omega), insOuter_size m (i + 1) _ (by omega), insInner_size]
theorem insL_len {α : Type} [Inhabited α] {lt : α → α → Bool} {a b : Nat} {xs : List α} : (insL lt a b xs).length = xs.length := by
  have := insOuter_size (lt := lt) (a := a) (b := b) _ (a + 1) xs.toArray rfl
  rw [insL, Sort.insertionSort, Array.length_toList, this]; simp
theorem sc_nil {α : Type} [Inhabited α] [DecidableEq α] {lt : α → α → Bool} {a b : Nat} {xs : List α} : compactL (insL lt a b xs) = [] ↔ xs = [] := by
  rw [compact_nil, ← List.length_eq_zero_iff, insL_len, List.length_eq_zero_iff]
noncomputable def keyN (ns : List Int) (i : Nat) : Int := gd ns i
noncomputable def nameN (ls : List Label) (i : Nat) : ByteArray := (gd ls i).name
noncomputable def okN (ns : List Int) (i : Nat) : Bool := !decide (gd ns i < 0)
theorem shorted_i {v u : Value} {xs : List (Sl Rect)} {ls : List Label} (h1 : Rs G L slT v xs) (hd : RsE G L rectT xs) (h2 : Rs G L labelT u ls) (hlen : ∀ i, i < ls.length → (gd ls i).name.size ≤ 9223372036854775807) (hl : ls.length ≤ 12)
    (k : ∀ v' zs, (zs = [] ↔ labC (er xs) ls ≠ 0 ∨ oM (keyN (labR (er xs) ls)) (nameN ls) (okN (labR (er xs) ls)) ls.length = []) → R v' G (osl 2 intT v' zs :: L)) : CallT Tryz.prog 24 #[v, u] G L R := by
  refine CallT.enter (args := _) Tryz.func24 rfl rfl (by kernel_rfl) rfl ?_
  refine WP.seq ?_
  refine WP.region ?_
  refine RG.pv rfl (PV.asg rfl rfl) ?_
  refine RG.nil ?_
  refine WP.seq ?_
  refine WP.region ?_
  refine RG.pv rfl (PV.move (v := v) rfl rfl) ?_
  refine RG.pv rfl (PV.move (v := u) rfl rfl) ?_
  refine RG.callF (vs := [v, u]) rfl rfl En14 rfl (labNets_i (Rs.up h1) hd.up (Rs.up h2) hlen (fun w16 => ?_))
  refine RG.pv rfl (PV.move (v := .tuple _) rfl rfl) ?_
  refine RG.pv rfl (PV.ext (v := w16) rfl rfl rfl) ?_
  refine RG.pv rfl (PV.ext rfl rfl rfl) ?_
  refine RG.pv rfl (PV.asg (v := w16) rfl rfl) ?_
  refine RG.pv rfl (PV.mvI (.inr rfl) rfl) ?_
  refine RG.nil ?_
  refine WP.seq ?_
  refine WP.seq ?_
  refine WP.region ?_
  refine RG.pv rfl (PV.mvI (.inl rfl) rfl) ?_
  refine RG.pv rfl (PV.neq rfl rfl rfl) ?_
  refine RG.nil ?_
  refine WP.cond rfl (fun h3 => ?_) (fun h3 => ?_)
  · have h3 : labC (er xs) ls ≠ 0 := by simpa using h3
    refine WP.seq ?_
    refine WP.region ?_
    refine RG.pv rfl (PV.asg rfl rfl) ?_
    refine RG.nil ?_
    refine WP.ret ?_
    exact ⟨_, _, ResV.one rfl rfl, Cv.nilP, k _ [] ⟨fun _ => .inl h3, fun _ => rfl⟩⟩
  · have h3 : labC (er xs) ls = 0 := by simpa using h3
    have hnl : (labR (er xs) ls).length = ls.length := by rw [labR, if_pos h3, List.length_map]
    refine WP.skip ?_
    refine WP.seq ?_
    refine WP.region ?_
    refine RG.ot rfl (OT.mkMap (fun a : Int => Value.int .i64 a) (fun a : ByteArray => Value.string a) rfl fun m21 => ?_)
    refine RG.ot rfl (OT.bslice (F := intT) (els := []) rfl El26 rfl (by decide) rfl (by decide) trivial fun v22 => ?_)
    refine RG.pv rfl (PV.asg (v := (.map (some m21))) rfl rfl) ?_
    refine RG.pv rfl (PV.asg (v := v22) rfl rfl) ?_
    refine RG.nil ?_
    refine WP.seq ?_
    refine WP.seq ?_
    refine WP.region ?_
    refine RG.pv rfl (PV.move (v := w16) rfl rfl) ?_
    refine RG.pv rfl (PV.len (v := w16) rfl Tryz.underlying26 rfl SlF.o) ?_
    refine RG.pv rfl (PV.mvI (.inl rfl) rfl) ?_
    refine RG.nil ?_
    refine WP.block ?_
    refine WP.cv ((Cv.cast (L' := osl 2 intT v22 (oM (keyN (labR (er xs) ls)) (nameN ls) (okN (labR (er xs) ls)) 0) :: omap (fun a : Int => Value.int .i64 a) (fun a : ByteArray => Value.string a) m21 (fM (keyN (labR (er xs) ls)) (nameN ls) (okN (labR (er xs) ls)) 0) :: osl 2 intT w16 (labR (er xs) ls) :: L) rfl)) ?_
    refine WP.loop2 [1, 7, 23, 24] (fun (i : Nat) (q : Value) => i ≤ ls.length) (fun (i : Nat) (q : Value) => [(25, vi i), (8, q)]) (fun (i : Nat) (q : Value) => osl 2 intT q (oM (keyN (labR (er xs) ls)) (nameN ls) (okN (labR (er xs) ls)) i) :: omap (fun a : Int => Value.int .i64 a) (fun a : ByteArray => Value.string a) m21 (fM (keyN (labR (er xs) ls)) (nameN ls) (okN (labR (er xs) ls)) i) :: osl 2 intT w16 (labR (er xs) ls) :: L) (fun (i : Nat) (q : Value) => ls.length - i) 0 v22 (by omega) ⟨rfl, rfl, trivial⟩ Cv.p ?_
    rintro i q τ hi
    refine WP.seq ?_
    refine WP.region ?_
    refine RG.pv rfl (PV.lss rfl rfl rfl) ?_
    refine RG.nil ?_
    refine WP.seq ?_
    have hol := oM_len (κ := keyN (labR (er xs) ls)) (ν := nameN ls) (ok := okN (labR (er xs) ls)) i
    refine WP.cond rfl (fun h4 => ?_) (fun h4 => ?_)
    · have h4 := of_decide_eq_true h4
      have hil : i < ls.length := by omega
      refine WP.skip ?_
      refine WP.seq ?_
      refine WP.block ?_
      refine WP.seq ?_
      refine WP.region ?_
      refine RG.pv rfl (PV.mvI (.inl rfl) rfl) ?_
      refine RG.pv rfl (PV.idxS (v := w16) rfl Is26 rfl SlF.o rfl rfl (by omega)) ?_
      refine RG.pv rfl (PV.loadE1 rfl Sc2 rfl rfl (El.o (getG (by omega))) rfl) ?_
      refine RG.pv rfl (PV.mvI (.inr rfl) rfl) ?_
      refine RG.pv rfl (PV.mvI (.inr rfl) rfl) ?_
      refine RG.nil ?_
      refine WP.seq ?_
      refine WP.seq ?_
      refine WP.region ?_
      refine RG.pv rfl (PV.mvI (.inl rfl) rfl) ?_
      refine RG.pv rfl (PV.lss rfl rfl rfl) ?_
      refine RG.nil ?_
      refine WP.cond rfl (fun h5 => ?_) (fun h5 => ?_)
      · have h5 : okN (labR (er xs) ls) i = false := by unfold okN; rw [h5]; rfl
        have e1 : fM (keyN (labR (er xs) ls)) (nameN ls) (okN (labR (er xs) ls)) (i + 1) = fM (keyN (labR (er xs) ls)) (nameN ls) (okN (labR (er xs) ls)) i := by rw [fM, if_neg (by rw [h5]; simp)]
        have e2 : oM (keyN (labR (er xs) ls)) (nameN ls) (okN (labR (er xs) ls)) (i + 1) = oM (keyN (labR (er xs) ls)) (nameN ls) (okN (labR (er xs) ls)) i := by rw [oM, if_neg (by rw [h5]; simp)]
        refine WP.exit ?_
        refine WP.region ?_
        refine RG.pv rfl (PV.add rfl rfl rfl (by omega)) ?_
        refine RG.pv rfl (PV.mvI (.inl rfl) rfl) ?_
        refine RG.nil ?_
        exact ⟨rfl, i + 1, q, (by omega), ⟨rfl, rfl, trivial⟩, ⟨rfl, rfl, rfl, rfl, trivial⟩, (by simp only [e1, e2]; exact Cv.p), by omega⟩
      · have h5 : okN (labR (er xs) ls) i = true := by unfold okN; rw [h5]; rfl
        refine WP.skip ?_
        refine WP.seq ?_
        refine WP.region ?_
        refine RG.pv rfl (PV.move (v := (.map (some m21))) rfl rfl) ?_
        refine RG.pv rfl (PV.mvI (.inl rfl) rfl) ?_
        refine RG.pv rfl (PV.lookM (z0 := ByteArray.empty) rfl Tryz.underlying98 Tryz.underlying2 KeyF.i (fun w => by kernel_rfl) rfl rfl) ?_
        refine RG.pv rfl (PV.move (v := .tuple _) rfl rfl) ?_
        refine RG.pv rfl (PV.ext rfl rfl rfl) ?_
        refine RG.pv rfl (PV.ext rfl rfl rfl) ?_
        refine RG.pv rfl (PV.mvS (.inr rfl) rfl) ?_
        refine RG.pv rfl (PV.mvB (.inr rfl) rfl) ?_
        refine RG.nil ?_
        refine WP.seq ?_
        refine WP.region ?_
        refine RG.pv rfl (PV.mvB (.inl rfl) rfl) ?_
        refine RG.pv rfl (PV.not rfl rfl) ?_
        refine RG.nil ?_
        refine WP.cond rfl (fun h6 => ?_) (fun h6 => ?_)
        · have hm : mget (fM (keyN (labR (er xs) ls)) (nameN ls) (okN (labR (er xs) ls)) i) (gd (labR (er xs) ls) i) = none := by simpa using h6
          have e1 : fM (keyN (labR (er xs) ls)) (nameN ls) (okN (labR (er xs) ls)) (i + 1) = fM (keyN (labR (er xs) ls)) (nameN ls) (okN (labR (er xs) ls)) i ++ [(gd (labR (er xs) ls) i, (gd ls i).name)] := by rw [fM, if_pos ⟨h5, hm⟩]; rfl
          have e2 : oM (keyN (labR (er xs) ls)) (nameN ls) (okN (labR (er xs) ls)) (i + 1) = oM (keyN (labR (er xs) ls)) (nameN ls) (okN (labR (er xs) ls)) i := by
            rw [oM, if_neg]
            rintro ⟨_, w, hw, _⟩
            have hw : mget (fM (keyN (labR (er xs) ls)) (nameN ls) (okN (labR (er xs) ls)) i) (gd (labR (er xs) ls) i) = some w := hw
            rw [hm] at hw; cases hw
          refine WP.region ?_
          refine RG.pv rfl (PV.move (v := (.map (some m21))) rfl rfl) ?_
          refine RG.pv rfl (PV.mvI (.inl rfl) rfl) ?_
          refine RG.pv rfl (PV.move (v := u) rfl rfl) ?_
          refine RG.pv rfl (PV.mvI (.inl rfl) rfl) ?_
          refine RG.pv rfl (PV.idxS (v := u) rfl Is31 rfl (SlF.r h2) rfl rfl (by omega)) ?_
          refine RG.pv rfl (PV.field rfl Fo51_2 rfl) ?_
          refine RG.pv rfl (PV.loadF rfl Sc9 rfl rfl (El.r h2 (getG (by omega))) rfl) ?_
          refine RG.ot rfl (OT.newKey (f := (fun a : Int => Value.int .i64 a)) (g := (fun a : ByteArray => Value.string a)) rfl Tryz.underlying98 Tryz.underlying2 KeyF.i rfl rfl rfl (by assumption) ?_)
          refine RG.nil ?_
          refine WP.region ?_
          refine RG.pv rfl (PV.add rfl rfl rfl (by omega)) ?_
          refine RG.pv rfl (PV.mvI (.inl rfl) rfl) ?_
          refine RG.nil ?_
          exact ⟨rfl, i + 1, q, (by omega), ⟨rfl, rfl, trivial⟩, ⟨rfl, rfl, rfl, rfl, trivial⟩, (by simp only [e1, e2]; exact Cv.p), by omega⟩
        · obtain ⟨w, hm⟩ : ∃ w, mget (fM (keyN (labR (er xs) ls)) (nameN ls) (okN (labR (er xs) ls)) i) (gd (labR (er xs) ls) i) = some w := by
            cases h : mget (fM (keyN (labR (er xs) ls)) (nameN ls) (okN (labR (er xs) ls)) i) (gd (labR (er xs) ls) i) with
            | none => rw [h] at h6; cases h6
            | some w => exact ⟨w, rfl⟩
          have e1 : fM (keyN (labR (er xs) ls)) (nameN ls) (okN (labR (er xs) ls)) (i + 1) = fM (keyN (labR (er xs) ls)) (nameN ls) (okN (labR (er xs) ls)) i := by
            rw [fM, if_neg]
            rintro ⟨_, hw⟩
            have hw : mget (fM (keyN (labR (er xs) ls)) (nameN ls) (okN (labR (er xs) ls)) i) (gd (labR (er xs) ls) i) = none := hw
            rw [hm] at hw; cases hw
          refine WP.seq ?_
          refine WP.region ?_
          refine RG.pv rfl (PV.mvS (.inl rfl) rfl) ?_
          refine RG.pv rfl (PV.move (v := u) rfl rfl) ?_
          refine RG.pv rfl (PV.mvI (.inl rfl) rfl) ?_
          refine RG.pv rfl (PV.idxS (v := u) rfl Is31 rfl (SlF.r h2) rfl rfl (by omega)) ?_
          refine RG.pv rfl (PV.field rfl Fo51_2 rfl) ?_
          refine RG.pv rfl (PV.loadF rfl Sc9 rfl rfl (El.r h2 (getG (by omega))) rfl) ?_
          refine RG.pv rfl (PV.neqS rfl rfl rfl) ?_
          refine RG.nil ?_
          rw [hm]
          refine WP.cond rfl (fun h7 => ?_) (fun h7 => ?_)
          · have h7 : w ≠ (gd ls i).name := by simpa using h7
            have e2 : oM (keyN (labR (er xs) ls)) (nameN ls) (okN (labR (er xs) ls)) (i + 1) = oM (keyN (labR (er xs) ls)) (nameN ls) (okN (labR (er xs) ls)) i ++ [gd (labR (er xs) ls) i] := by rw [oM, if_pos ⟨h5, w, hm, h7⟩]; rfl
            refine WP.region ?_
            refine RG.pv rfl (PV.move (v := q) rfl rfl) ?_
            refine RG.pv rfl (PV.mvI (.inl rfl) rfl) ?_
            refine RG.ot rfl (OT.bslice (F := intT) (els := [_]) rfl El26 rfl (by decide) rfl (by decide) ⟨rfl, (Cl.c rfl), trivial⟩ fun v56 => ?_)
            refine RG.ot rfl (OT.append (v := q) (u := v56) (F := intT) rfl El26 rfl (by decide) rfl rfl Rs.o (OneL.c (fun _ => rfl)) rfl (by first | omega | (simp <;> omega)) fun v57 => ?_)
            refine RG.pv rfl (PV.asg (v := v57) rfl rfl) ?_
            refine RG.nil ?_
            refine WP.region ?_
            refine RG.pv rfl (PV.add rfl rfl rfl (by omega)) ?_
            refine RG.pv rfl (PV.mvI (.inl rfl) rfl) ?_
            refine RG.nil ?_
            exact ⟨rfl, i + 1, v57, (by omega), ⟨rfl, rfl, trivial⟩, ⟨rfl, rfl, rfl, rfl, trivial⟩, (by simp only [e1, e2]; exact Cv.p), by omega⟩
          · have h7 : w = (gd ls i).name := by simpa using h7
            have e2 : oM (keyN (labR (er xs) ls)) (nameN ls) (okN (labR (er xs) ls)) (i + 1) = oM (keyN (labR (er xs) ls)) (nameN ls) (okN (labR (er xs) ls)) i := by
              rw [oM, if_neg]
              rintro ⟨_, w', hw, hne⟩
              have hw : mget (fM (keyN (labR (er xs) ls)) (nameN ls) (okN (labR (er xs) ls)) i) (gd (labR (er xs) ls) i) = some w' := hw
              rw [hm] at hw; cases hw
              exact hne h7
            refine WP.skip ?_
            refine WP.region ?_
            refine RG.pv rfl (PV.add rfl rfl rfl (by omega)) ?_
            refine RG.pv rfl (PV.mvI (.inl rfl) rfl) ?_
            refine RG.nil ?_
            exact ⟨rfl, i + 1, q, (by omega), ⟨rfl, rfl, trivial⟩, ⟨rfl, rfl, rfl, rfl, trivial⟩, (by simp only [e1, e2]; exact Cv.p), by omega⟩
    · have h4 := of_decide_eq_false h4
      obtain rfl : i = ls.length := by omega
      refine WP.exit ?_
      refine WP.seq ?_
      refine WP.region ?_
      refine RG.pv rfl (PV.move (v := q) rfl rfl) ?_
      refine RG.callF (vs := [q]) rfl rfl En64 rfl (sort_int (by omega) ?_)
      refine RG.nil ?_
      refine WP.seq ?_
      refine WP.region ?_
      refine RG.pv rfl (PV.move (v := q) rfl rfl) ?_
      refine RG.callF (vs := [q]) rfl rfl En65 rfl (compact_int (by rw [insL_len]; omega) (fun v62 => ?_))
      refine RG.pv rfl (PV.asg (v := v62) rfl rfl) ?_
      refine RG.nil ?_
      refine WP.ret ?_
      exact ⟨_, _, ResV.one rfl rfl, Cv.p, k v62 (compactL (insL lt_int 0 (oM (keyN (labR (er xs) ls)) (nameN ls) (okN (labR (er xs) ls)) ls.length).length (oM (keyN (labR (er xs) ls)) (nameN ls) (okN (labR (er xs) ls)) ls.length))) (by rw [sc_nil]; simp [h3])⟩
theorem opens_i {v u : Value} {xs : List (Sl Rect)} {ls : List Label} (h1 : Rs G L slT v xs) (hd : RsE G L rectT xs) (h2 : Rs G L labelT u ls) (hlen : ∀ i, i < ls.length → (gd ls i).name.size ≤ 9223372036854775807) (hl : ls.length ≤ 12)
    (k : ∀ v' zs, (zs = [] ↔ labC (er xs) ls ≠ 0 ∨ oM (nameN ls) (keyN (labR (er xs) ls)) (okN (labR (er xs) ls)) ls.length = []) → R v' G (osl 9 strT v' zs :: L)) : CallT Tryz.prog 25 #[v, u] G L R := by
  refine CallT.enter (args := _) Tryz.func25 rfl rfl (by kernel_rfl) rfl ?_
  refine WP.seq ?_
  refine WP.region ?_
  refine RG.pv rfl (PV.asg rfl rfl) ?_
  refine RG.nil ?_
  refine WP.seq ?_
  refine WP.region ?_
  refine RG.pv rfl (PV.move (v := v) rfl rfl) ?_
  refine RG.pv rfl (PV.move (v := u) rfl rfl) ?_
  refine RG.callF (vs := [v, u]) rfl rfl En14 rfl (labNets_i (Rs.up h1) hd.up (Rs.up h2) hlen (fun w16 => ?_))
  refine RG.pv rfl (PV.move (v := .tuple _) rfl rfl) ?_
  refine RG.pv rfl (PV.ext (v := w16) rfl rfl rfl) ?_
  refine RG.pv rfl (PV.ext rfl rfl rfl) ?_
  refine RG.pv rfl (PV.asg (v := w16) rfl rfl) ?_
  refine RG.pv rfl (PV.mvI (.inr rfl) rfl) ?_
  refine RG.nil ?_
  refine WP.seq ?_
  refine WP.seq ?_
  refine WP.region ?_
  refine RG.pv rfl (PV.mvI (.inl rfl) rfl) ?_
  refine RG.pv rfl (PV.neq rfl rfl rfl) ?_
  refine RG.nil ?_
  refine WP.cond rfl (fun h3 => ?_) (fun h3 => ?_)
  · have h3 : labC (er xs) ls ≠ 0 := by simpa using h3
    refine WP.seq ?_
    refine WP.region ?_
    refine RG.pv rfl (PV.asg rfl rfl) ?_
    refine RG.nil ?_
    refine WP.ret ?_
    exact ⟨_, _, ResV.one rfl rfl, Cv.nilP, k _ [] ⟨fun _ => .inl h3, fun _ => rfl⟩⟩
  · have h3 : labC (er xs) ls = 0 := by simpa using h3
    have hnl : (labR (er xs) ls).length = ls.length := by rw [labR, if_pos h3, List.length_map]
    refine WP.skip ?_
    refine WP.seq ?_
    refine WP.region ?_
    refine RG.ot rfl (OT.mkMap (fun a : ByteArray => Value.string a) (fun a : Int => Value.int .i64 a) rfl fun m21 => ?_)
    refine RG.ot rfl (OT.bslice (F := strT) (els := []) rfl El45 rfl (by decide) rfl (by decide) trivial fun v22 => ?_)
    refine RG.pv rfl (PV.asg (v := (.map (some m21))) rfl rfl) ?_
    refine RG.pv rfl (PV.asg (v := v22) rfl rfl) ?_
    refine RG.nil ?_
    refine WP.seq ?_
    refine WP.seq ?_
    refine WP.region ?_
    refine RG.pv rfl (PV.move (v := u) rfl rfl) ?_
    refine RG.pv rfl (PV.len (v := u) rfl Tryz.underlying31 rfl (SlF.r h2)) ?_
    refine RG.pv rfl (PV.mvI (.inl rfl) rfl) ?_
    refine RG.nil ?_
    refine WP.block ?_
    refine WP.cv ((Cv.cast (L' := osl 9 strT v22 (oM (nameN ls) (keyN (labR (er xs) ls)) (okN (labR (er xs) ls)) 0) :: omap (fun a : ByteArray => Value.string a) (fun a : Int => Value.int .i64 a) m21 (fM (nameN ls) (keyN (labR (er xs) ls)) (okN (labR (er xs) ls)) 0) :: osl 2 intT w16 (labR (er xs) ls) :: L) rfl)) ?_
    refine WP.loop2 [5, 7, 23, 24] (fun (i : Nat) (q : Value) => i ≤ ls.length) (fun (i : Nat) (q : Value) => [(25, vi i), (8, q)]) (fun (i : Nat) (q : Value) => osl 9 strT q (oM (nameN ls) (keyN (labR (er xs) ls)) (okN (labR (er xs) ls)) i) :: omap (fun a : ByteArray => Value.string a) (fun a : Int => Value.int .i64 a) m21 (fM (nameN ls) (keyN (labR (er xs) ls)) (okN (labR (er xs) ls)) i) :: osl 2 intT w16 (labR (er xs) ls) :: L) (fun (i : Nat) (q : Value) => ls.length - i) 0 v22 (by omega) ⟨rfl, rfl, trivial⟩ Cv.p ?_
    rintro i q τ hi
    refine WP.seq ?_
    refine WP.region ?_
    refine RG.pv rfl (PV.lss rfl rfl rfl) ?_
    refine RG.nil ?_
    refine WP.seq ?_
    have hol := oM_len (κ := nameN ls) (ν := keyN (labR (er xs) ls)) (ok := okN (labR (er xs) ls)) i
    refine WP.cond rfl (fun h4 => ?_) (fun h4 => ?_)
    · have h4 := of_decide_eq_true h4
      have hil : i < ls.length := by omega
      refine WP.skip ?_
      refine WP.seq ?_
      refine WP.block ?_
      refine WP.seq ?_
      refine WP.region ?_
      refine RG.pv rfl (PV.mvI (.inl rfl) rfl) ?_
      refine RG.pv rfl (PV.idxS (v := u) rfl Is31 rfl (SlF.r h2) rfl rfl (by omega)) ?_
      refine RG.pv rfl (PV.loadE rfl Ag51 rfl rfl (El.r h2 (getG (by omega)))) ?_
      refine RG.ot rfl (OT.alloc rfl Zr51 fun b10 => ?_)
      refine RG.pv rfl (PV.mvI (.inr rfl) rfl) ?_
      refine RG.ot rfl (OT.storeW (vs := [vi _, vi _, vi _, .string _]) rfl Sz51 rfl rfl (Cl.c rfl) rfl rfl (OneC.c rfl) ?_)
      refine RG.nil ?_
      refine WP.seq ?_
      refine WP.seq ?_
      refine WP.region ?_
      refine RG.pv rfl (PV.move (v := w16) rfl rfl) ?_
      refine RG.pv rfl (PV.mvI (.inl rfl) rfl) ?_
      refine RG.pv rfl (PV.idxS (v := w16) rfl Is26 rfl SlF.o rfl rfl (by omega)) ?_
      refine RG.pv rfl (PV.loadE1 rfl Sc2 rfl rfl (El.o (getG (by omega))) rfl) ?_
      refine RG.pv rfl (PV.lss rfl rfl rfl) ?_
      refine RG.nil ?_
      refine WP.cond rfl (fun h5 => ?_) (fun h5 => ?_)
      · have h5 : okN (labR (er xs) ls) i = false := by unfold okN; rw [h5]; rfl
        have e1 : fM (nameN ls) (keyN (labR (er xs) ls)) (okN (labR (er xs) ls)) (i + 1) = fM (nameN ls) (keyN (labR (er xs) ls)) (okN (labR (er xs) ls)) i := by rw [fM, if_neg (by rw [h5]; simp)]
        have e2 : oM (nameN ls) (keyN (labR (er xs) ls)) (okN (labR (er xs) ls)) (i + 1) = oM (nameN ls) (keyN (labR (er xs) ls)) (okN (labR (er xs) ls)) i := by rw [oM, if_neg (by rw [h5]; simp)]
        refine WP.exit ?_
        refine WP.region ?_
        refine RG.pv rfl (PV.add rfl rfl rfl (by omega)) ?_
        refine RG.pv rfl (PV.mvI (.inl rfl) rfl) ?_
        refine RG.nil ?_
        exact ⟨rfl, i + 1, q, (by omega), ⟨rfl, rfl, trivial⟩, ⟨rfl, rfl, rfl, rfl, trivial⟩, (by simp only [e1, e2]; exact Cv.p), by omega⟩
      · have h5 : okN (labR (er xs) ls) i = true := by unfold okN; rw [h5]; rfl
        refine WP.skip ?_
        refine WP.seq ?_
        refine WP.region ?_
        refine RG.pv rfl (PV.move (v := (.map (some m21))) rfl rfl) ?_
        refine RG.pv rfl (PV.field rfl Fo51_2 rfl) ?_
        refine RG.pv rfl (PV.load1 rfl Sc9 rfl (Rd.blk rfl)) ?_
        refine RG.pv rfl (PV.lookM (z0 := 0) rfl Tryz.underlying102 Tryz.underlying9 KeyF.s (fun w => by kernel_rfl) rfl rfl) ?_
        refine RG.pv rfl (PV.move (v := .tuple _) rfl rfl) ?_
        refine RG.pv rfl (PV.ext rfl rfl rfl) ?_
        refine RG.pv rfl (PV.ext rfl rfl rfl) ?_
        refine RG.pv rfl (PV.mvI (.inr rfl) rfl) ?_
        refine RG.pv rfl (PV.mvB (.inr rfl) rfl) ?_
        refine RG.nil ?_
        refine WP.seq ?_
        refine WP.region ?_
        refine RG.pv rfl (PV.mvB (.inl rfl) rfl) ?_
        refine RG.pv rfl (PV.not rfl rfl) ?_
        refine RG.nil ?_
        refine WP.cond rfl (fun h6 => ?_) (fun h6 => ?_)
        · have hm : mget (fM (nameN ls) (keyN (labR (er xs) ls)) (okN (labR (er xs) ls)) i) (gd ls i).name = none := by simpa using h6
          have e1 : fM (nameN ls) (keyN (labR (er xs) ls)) (okN (labR (er xs) ls)) (i + 1) = fM (nameN ls) (keyN (labR (er xs) ls)) (okN (labR (er xs) ls)) i ++ [((gd ls i).name, gd (labR (er xs) ls) i)] := by rw [fM, if_pos ⟨h5, hm⟩]; rfl
          have e2 : oM (nameN ls) (keyN (labR (er xs) ls)) (okN (labR (er xs) ls)) (i + 1) = oM (nameN ls) (keyN (labR (er xs) ls)) (okN (labR (er xs) ls)) i := by
            rw [oM, if_neg]
            rintro ⟨_, w, hw, _⟩
            have hw : mget (fM (nameN ls) (keyN (labR (er xs) ls)) (okN (labR (er xs) ls)) i) (gd ls i).name = some w := hw
            rw [hm] at hw; cases hw
          refine WP.regionHD [.s (.map (some m21))] (.q 0 (.q 1 (.q 2 (.q 3 (.q 4 (.q 5 (.q 6 (.l 7 Sch.nil)))))))) (by kernel_rfl) (by kernel_rfl) (by kernel_rfl) rfl ?_
          refine RH.pv rfl (fun _ _ _ _ h => h) (Gh.le_refl _) PickC.pick rfl (PV.move (v := (.map (some m21))) rfl rfl) ?_
          refine RH.pv rfl (fun _ _ _ _ h => h) (Gh.le_refl _) PickC.pick rfl (PV.field rfl Fo51_2 rfl) ?_
          refine RH.pv rfl (fun _ _ _ _ h => h) (Gh.le_refl _) PickC.pick rfl (PV.load1 rfl Sc9 rfl (Rd.blk rfl)) ?_
          refine RH.pv rfl (fun _ _ _ _ h => h) (Gh.le_refl _) PickC.pick rfl (PV.move (v := w16) rfl rfl) ?_
          refine RH.pv rfl (fun _ _ _ _ h => h) (Gh.le_refl _) PickC.pick rfl (PV.mvI (.inl rfl) rfl) ?_
          refine RH.pv rfl (fun _ _ _ _ h => h) (Gh.le_refl _) PickC.pick rfl (PV.idxS (v := w16) rfl Is26 rfl SlF.o rfl rfl (by omega)) ?_
          refine RH.pv rfl (fun _ _ _ _ h => h) (Gh.le_refl _) PickC.pick rfl (PV.loadE1 rfl Sc2 rfl rfl (El.o (getG (by omega))) rfl) ?_
          refine RH.ot rfl rfl (OT.newKey (f := (fun a : ByteArray => Value.string a)) (g := (fun a : Int => Value.int .i64 a)) rfl Tryz.underlying102 Tryz.underlying9 KeyF.s rfl rfl rfl (by assumption) ⟨Gh.le_refl _, PickC.pick, ?_⟩)
          refine RH.nil ?_
          refine WP.region ?_
          refine RG.pv rfl (PV.add rfl rfl rfl (by omega)) ?_
          refine RG.pv rfl (PV.mvI (.inl rfl) rfl) ?_
          refine RG.nil ?_
          exact ⟨rfl, i + 1, q, (by omega), ⟨rfl, rfl, trivial⟩, ⟨rfl, rfl, rfl, rfl, trivial⟩, (by simp only [e1, e2]; exact Cv.p), by omega⟩
        · obtain ⟨w, hm⟩ : ∃ w, mget (fM (nameN ls) (keyN (labR (er xs) ls)) (okN (labR (er xs) ls)) i) (gd ls i).name = some w := by
            cases h : mget (fM (nameN ls) (keyN (labR (er xs) ls)) (okN (labR (er xs) ls)) i) (gd ls i).name with
            | none => rw [h] at h6; cases h6
            | some w => exact ⟨w, rfl⟩
          have e1 : fM (nameN ls) (keyN (labR (er xs) ls)) (okN (labR (er xs) ls)) (i + 1) = fM (nameN ls) (keyN (labR (er xs) ls)) (okN (labR (er xs) ls)) i := by
            rw [fM, if_neg]
            rintro ⟨_, hw⟩
            have hw : mget (fM (nameN ls) (keyN (labR (er xs) ls)) (okN (labR (er xs) ls)) i) (gd ls i).name = none := hw
            rw [hm] at hw; cases hw
          refine WP.seq ?_
          refine WP.region ?_
          refine RG.pv rfl (PV.mvI (.inl rfl) rfl) ?_
          refine RG.pv rfl (PV.move (v := w16) rfl rfl) ?_
          refine RG.pv rfl (PV.mvI (.inl rfl) rfl) ?_
          refine RG.pv rfl (PV.idxS (v := w16) rfl Is26 rfl SlF.o rfl rfl (by omega)) ?_
          refine RG.pv rfl (PV.loadE1 rfl Sc2 rfl rfl (El.o (getG (by omega))) rfl) ?_
          refine RG.pv rfl (PV.neq rfl rfl rfl) ?_
          refine RG.nil ?_
          rw [hm]
          refine WP.cond rfl (fun h7 => ?_) (fun h7 => ?_)
          · have h7 : w ≠ gd (labR (er xs) ls) i := by simpa using h7
            have e2 : oM (nameN ls) (keyN (labR (er xs) ls)) (okN (labR (er xs) ls)) (i + 1) = oM (nameN ls) (keyN (labR (er xs) ls)) (okN (labR (er xs) ls)) i ++ [(gd ls i).name] := by rw [oM, if_pos ⟨h5, w, hm, h7⟩]; rfl
            refine WP.region ?_
            refine RG.pv rfl (PV.move (v := q) rfl rfl) ?_
            refine RG.pv rfl (PV.field rfl Fo51_2 rfl) ?_
            refine RG.pv rfl (PV.load1 rfl Sc9 rfl (Rd.blk rfl)) ?_
            refine RG.ot rfl (OT.bslice (F := strT) (els := [_]) rfl El45 rfl (by decide) rfl (by decide) ⟨rfl, (Cl.c rfl), trivial⟩ fun v60 => ?_)
            refine RG.ot rfl (OT.append (v := q) (u := v60) (F := strT) rfl El45 rfl (by decide) rfl rfl Rs.o (OneL.c (fun _ => rfl)) rfl (by first | omega | (simp <;> omega)) fun v61 => ?_)
            refine RG.pv rfl (PV.asg (v := v61) rfl rfl) ?_
            refine RG.nil ?_
            refine WP.region ?_
            refine RG.pv rfl (PV.add rfl rfl rfl (by omega)) ?_
            refine RG.pv rfl (PV.mvI (.inl rfl) rfl) ?_
            refine RG.nil ?_
            exact ⟨rfl, i + 1, v61, (by omega), ⟨rfl, rfl, trivial⟩, ⟨rfl, rfl, rfl, rfl, trivial⟩, (by simp only [e1, e2]; exact Cv.p), by omega⟩
          · have h7 : w = gd (labR (er xs) ls) i := by simpa using h7
            have e2 : oM (nameN ls) (keyN (labR (er xs) ls)) (okN (labR (er xs) ls)) (i + 1) = oM (nameN ls) (keyN (labR (er xs) ls)) (okN (labR (er xs) ls)) i := by
              rw [oM, if_neg]
              rintro ⟨_, w', hw, hne⟩
              have hw : mget (fM (nameN ls) (keyN (labR (er xs) ls)) (okN (labR (er xs) ls)) i) (gd ls i).name = some w' := hw
              rw [hm] at hw; cases hw
              exact hne h7
            refine WP.skip ?_
            refine WP.region ?_
            refine RG.pv rfl (PV.add rfl rfl rfl (by omega)) ?_
            refine RG.pv rfl (PV.mvI (.inl rfl) rfl) ?_
            refine RG.nil ?_
            exact ⟨rfl, i + 1, q, (by omega), ⟨rfl, rfl, trivial⟩, ⟨rfl, rfl, rfl, rfl, trivial⟩, (by simp only [e1, e2]; exact Cv.p), by omega⟩
    · have h4 := of_decide_eq_false h4
      obtain rfl : i = ls.length := by omega
      refine WP.exit ?_
      refine WP.seq ?_
      refine WP.region ?_
      refine RG.pv rfl (PV.move (v := q) rfl rfl) ?_
      refine RG.callF (vs := [q]) rfl rfl En66 rfl (sort_str (by omega) ?_)
      refine RG.nil ?_
      refine WP.seq ?_
      refine WP.region ?_
      refine RG.pv rfl (PV.move (v := q) rfl rfl) ?_
      refine RG.callF (vs := [q]) rfl rfl En67 rfl (compact_str (by rw [insL_len]; omega) (fun v66 => ?_))
      refine RG.pv rfl (PV.asg (v := v66) rfl rfl) ?_
      refine RG.nil ?_
      refine WP.ret ?_
      exact ⟨_, _, ResV.one rfl rfl, Cv.p, k v66 (compactL (insL lt_str 0 (oM (nameN ls) (keyN (labR (er xs) ls)) (okN (labR (er xs) ls)) ls.length).length (oM (nameN ls) (keyN (labR (er xs) ls)) (okN (labR (er xs) ls)) ls.length))) (by rw [sc_nil]; simp [h3])⟩
end Go.Proofs.YtmomfgfmnpblpaaGreat
namespace Go.Proofs.YtmomfgfmnpblpaaGreat
set_option linter.unusedVariables false
set_option linter.unusedSimpArgs false
open Go
set_option maxRecDepth 20000
set_option linter.unusedSimpArgs false
variable {G : Gh} {L : List Ch} {R : Value → Gh → List Ch → Prop}
def RB (r : Rect) : Prop := (-40 ≤ r.x0 ∧ r.x0 ≤ 40) ∧ (-40 ≤ r.x1 ∧ r.x1 ≤ 40) ∧ (-40 ≤ r.y0 ∧ r.y0 ≤ 40) ∧ (-40 ≤ r.y1 ∧ r.y1 ≤ 40)
theorem RB_all {xs : List Rect} (h : isReg xs = true) : ∀ r ∈ xs, RB r := fun r hr => by
  have := RIn_all h r hr; simp only [RIn] at this; simp only [RB]; omega
def RL (xs : List Rect) : Prop := xs.length ≤ 100000000 ∧ ∀ r ∈ xs, RB r
theorem RL_all {xs : List Rect} (h : isReg xs = true) : RL xs := ⟨by have := isReg_len h; omega, RB_all h⟩
theorem drawLayoutB_s {b : Nat} {cv : Value} {bs : List UInt8} (hcode : SL G byteT cv bs) (k : ∀ v v0 xs ys, Rs G [osl 56 slT v0 ys, bagS 61 rectT ys] slT v xs → (∀ s ∈ xs, s ∈ ys) → xs.length ≤ 8 → (∀ s ∈ ys, RL s.xs) → R v G (osl 56 slT v0 ys :: bagS 61 rectT ys :: src b cv :: L)) : CallT Tryz.prog 62 #[.pointer (some ⟨b, 0, none⟩)] G (src b cv :: L) R := by
  refine CallT.enter (args := _) Tryz.func62 rfl rfl (by kernel_rfl) rfl ?_
  refine WP.seq ?_
  refine WP.region ?_
  refine RG.pv rfl (PV.asg rfl rfl) ?_
  refine RG.nil ?_
  refine WP.seq ?_
  refine WP.region ?_
  refine RG.pv rfl (PV.move rfl rfl) ?_
  refine RG.callF (vs := [_, _, _]) rfl rfl En105 rfl (CallT.exC (src b cv) (drawBoxes_s hcode (by omega) (by omega) (fun v8 xsv8 hxv8 => ?_)))
  refine RG.pv rfl (PV.move rfl rfl) ?_
  refine RG.callF (vs := [_, _, _]) rfl rfl En105 rfl (CallT.exC (src b cv) (drawBoxes_s hcode (by omega) (by omega) (fun v10 xsv10 hxv10 => ?_)))
  refine RG.pv rfl (PV.move rfl rfl) ?_
  refine RG.callF (vs := [_, _, _]) rfl rfl En105 rfl (CallT.exC (src b cv) (drawBoxes_s hcode (by omega) (by omega) (fun v12 xsv12 hxv12 => ?_)))
  refine RG.pv rfl (PV.move rfl rfl) ?_
  refine RG.callF (vs := [_, _, _]) rfl rfl En105 rfl (CallT.exC (src b cv) (drawBoxes_s hcode (by omega) (by omega) (fun v14 xsv14 hxv14 => ?_)))
  refine RG.pv rfl (PV.move rfl rfl) ?_
  refine RG.callF (vs := [_, _, _]) rfl rfl En105 rfl (CallT.exC (src b cv) (drawBoxes_s hcode (by omega) (by omega) (fun v16 xsv16 hxv16 => ?_)))
  refine RG.pv rfl (PV.move rfl rfl) ?_
  refine RG.callF (vs := [_, _, _]) rfl rfl En105 rfl (CallT.exC (src b cv) (drawBoxes_s hcode (by omega) (by omega) (fun v18 xsv18 hxv18 => ?_)))
  refine RG.pv rfl (PV.move rfl rfl) ?_
  refine RG.callF (vs := [_, _, _]) rfl rfl En105 rfl (CallT.exC (src b cv) (drawBoxes_s hcode (by omega) (by omega) (fun v20 xsv20 hxv20 => ?_)))
  refine RG.ot rfl (OT.bslice (F := rectT) (els := []) rfl El56 rfl (by decide) rfl (by decide) trivial fun v21 => ?_)
  refine RG.ot rfl (OT.bslice (F := (slT (α := Rect))) (els := [⟨v8, xsv8⟩, ⟨v10, xsv10⟩, ⟨v12, xsv12⟩, ⟨v14, xsv14⟩, ⟨v16, xsv16⟩, ⟨v18, xsv18⟩, ⟨v20, xsv20⟩, ⟨v21, []⟩]) rfl El29 rfl (by decide) rfl (by decide) ⟨rfl, (Cl.s (v := v8) SlF.o), ⟨rfl, (Cl.s (v := v10) SlF.o), ⟨rfl, (Cl.s (v := v12) SlF.o), ⟨rfl, (Cl.s (v := v14) SlF.o), ⟨rfl, (Cl.s (v := v16) SlF.o), ⟨rfl, (Cl.s (v := v18) SlF.o), ⟨rfl, (Cl.s (v := v20) SlF.o), ⟨rfl, (Cl.s (v := v21) SlF.o), trivial⟩⟩⟩⟩⟩⟩⟩⟩ fun v22 => ?_)
  refine RG.pv rfl (PV.asg (v := v22) rfl rfl) ?_
  refine RG.nil ?_
  refine WP.seq ?_
  refine WP.seq ?_
  refine WP.region ?_
  refine RG.pv rfl (PV.move rfl rfl) ?_
  refine RG.callF (vs := [_, _]) rfl rfl En106 rfl (CallT.exC (src b cv) (next_s hcode (by omega) (fun w24 hw24 => ?_)))
  refine RG.nil ?_
  refine WP.block ?_
  refine WP.seq ?_
  refine WP.region ?_
  refine RG.pv rfl (PV.eql rfl rfl rfl) ?_
  refine RG.pv rfl (PV.mvB (.inr rfl) rfl) ?_
  refine RG.nil ?_
  refine WP.cv ((Cv.p (C := osl 56 slT v22 ([⟨v8, xsv8⟩, ⟨v10, xsv10⟩, ⟨v12, xsv12⟩, ⟨v14, xsv14⟩, ⟨v16, xsv16⟩, ⟨v18, xsv18⟩, ⟨v20, xsv20⟩, ⟨v21, []⟩] : List (Sl Rect)) :: osl 61 rectT v8 xsv8 :: osl 61 rectT v10 xsv10 :: osl 61 rectT v12 xsv12 :: osl 61 rectT v14 xsv14 :: osl 61 rectT v16 xsv16 :: osl 61 rectT v18 xsv18 :: osl 61 rectT v20 xsv20 :: osl 61 rectT v21 [] :: src b cv :: L)).trans ((Cv.cons (Cv.toBag (B := [osl 61 rectT v8 xsv8, osl 61 rectT v10 xsv10, osl 61 rectT v12 xsv12, osl 61 rectT v14 xsv14, osl 61 rectT v16 xsv16, osl 61 rectT v18 xsv18, osl 61 rectT v20 xsv20, osl 61 rectT v21 []]))).trans (Cv.cast (L' := osl 56 slT v22 ([⟨v8, xsv8⟩, ⟨v10, xsv10⟩, ⟨v12, xsv12⟩, ⟨v14, xsv14⟩, ⟨v16, xsv16⟩, ⟨v18, xsv18⟩, ⟨v20, xsv20⟩, ⟨v21, []⟩] : List (Sl Rect)) :: bagS 61 rectT ([⟨v8, xsv8⟩, ⟨v10, xsv10⟩, ⟨v12, xsv12⟩, ⟨v14, xsv14⟩, ⟨v16, xsv16⟩, ⟨v18, xsv18⟩, ⟨v20, xsv20⟩, ⟨v21, []⟩] : List (Sl Rect)) :: src b cv :: L) rfl))) ?_
  have hin : ∀ s ∈ ([⟨v8, xsv8⟩, ⟨v10, xsv10⟩, ⟨v12, xsv12⟩, ⟨v14, xsv14⟩, ⟨v16, xsv16⟩, ⟨v18, xsv18⟩, ⟨v20, xsv20⟩, ⟨v21, []⟩] : List (Sl Rect)), RL s.xs := by
    intro s hs
    simp only [List.mem_cons, List.not_mem_nil, or_false] at hs
    rcases hs with rfl | rfl | rfl | rfl | rfl | rfl | rfl | rfl
    · exact RL_all hxv8
    · exact RL_all hxv10
    · exact RL_all hxv12
    · exact RL_all hxv14
    · exact RL_all hxv16
    · exact RL_all hxv18
    · exact RL_all hxv20
    · exact ⟨by simp, fun r hr => by cases hr⟩
  have hyl : ([⟨v8, xsv8⟩, ⟨v10, xsv10⟩, ⟨v12, xsv12⟩, ⟨v14, xsv14⟩, ⟨v16, xsv16⟩, ⟨v18, xsv18⟩, ⟨v20, xsv20⟩, ⟨v21, []⟩] : List (Sl Rect)).length = 8 := rfl
  generalize ([⟨v8, xsv8⟩, ⟨v10, xsv10⟩, ⟨v12, xsv12⟩, ⟨v14, xsv14⟩, ⟨v16, xsv16⟩, ⟨v18, xsv18⟩, ⟨v20, xsv20⟩, ⟨v21, []⟩] : List (Sl Rect)) = ys at *
  have hset : ∀ (i : Nat) (a : Sl Rect), (RL a.xs) → ∀ s ∈ ys.set i a, RL s.xs := fun i a ha s hs => by
    rcases List.mem_or_eq_of_mem_set hs with h | h
    · exact hin s h
    · rw [h]; exact ha
  have fin : ∀ zs : List (Sl Rect), zs.length = 8 → (∀ s ∈ zs, RL s.xs) → R v22 G (osl 56 slT v22 zs :: bagS 61 rectT zs :: src b cv :: L) := fun zs hz hz2 => k v22 v22 zs zs Rs.o (fun s h => h) (by omega) hz2
  refine WP.cond rfl (fun h2 => ?_) (fun h2 => ?_)
  · skip
    refine WP.seq ?_
    refine WP.region ?_
    refine RG.pv rfl (PV.move (v := v22) rfl rfl) ?_
    refine RG.pv rfl (PV.slc (l := 1) (v := v22) rfl Is29 rfl SlF.o (optAt.s rfl (by omega)) optAt.n (by omega) (by omega)) ?_
    refine RG.pv rfl (PV.asg rfl rfl) ?_
    refine RG.nil ?_
    refine WP.ret ?_
    exact ⟨_, _, ResV.one rfl rfl, Cv.p, k _ v22 ((ys.take 8).drop 1) ys (by rw [← hyl]; exact Rs.slv (F := slT) Rs.o (by omega) (by omega)) (fun s h => List.mem_of_mem_take (List.mem_of_mem_drop h)) (by simp; omega) hin⟩
  · refine WP.seq ?_
    refine WP.region ?_
    refine RG.pv rfl (PV.eql rfl rfl rfl) ?_
    refine RG.pv rfl (PV.mvB (.inr rfl) rfl) ?_
    refine RG.nil ?_
    refine WP.cond rfl (fun h3 => ?_) (fun h3 => ?_)
    · skip
      refine WP.seq ?_
      refine WP.region ?_
      refine RG.pv rfl (PV.move rfl rfl) ?_
      refine RG.callF (vs := [_, _]) rfl rfl En106 rfl (CallT.exC (src b cv) (next_s hcode (by omega) (fun w32 hw32 => ?_)))
      refine RG.pv rfl (PV.mvI (.inr rfl) rfl) ?_
      refine RG.nil ?_
      refine WP.region ?_
      refine RG.pv rfl (PV.move (v := v22) rfl rfl) ?_
      refine RG.pv rfl (PV.mvI (.inl rfl) rfl) ?_
      refine RG.pv rfl (PV.build (vs := [(0, [vi _]), (1, [vi _]), (2, [vi _]), (3, [vi _])]) (out := [_, _, _, _]) rfl Zr61 Pl61 ⟨rfl, (Cl.c rfl), ⟨rfl, (Cl.c rfl), ⟨rfl, (Cl.c rfl), ⟨rfl, (Cl.c rfl), trivial⟩⟩⟩⟩ rfl) ?_
      refine RG.ot rfl (OT.bslice (F := rectT) (els := [⟨_, _, _, _⟩]) rfl El56 rfl (by decide) rfl (by decide) ⟨rfl, (Cl.c rfl), trivial⟩ fun v36 => ?_)
      refine RG.pv rfl (PV.idxS (j := w32.toNat) (v := v22) rfl Is29 rfl SlF.o rfl (by omega) (by omega)) ?_
      refine RG.ot rfl (OT.storeE (v := v36) (a := ⟨v36, [⟨2, 2, 2, 3⟩]⟩) (F := (slT (α := Rect))) rfl Sz56 rfl rfl rfl (Cl.s (v := v36) SlF.o) (OneC.sl SlF.o OneC.nil) (by omega) ?_)
      refine RG.nil ?_
      refine WP.seq ?_
      refine WP.region ?_
      refine RG.pv rfl (PV.move (v := v22) rfl rfl) ?_
      refine RG.pv rfl (PV.asg (v := v22) rfl rfl) ?_
      refine RG.nil ?_
      refine WP.ret ?_
      exact ⟨_, _, ResV.one rfl rfl, ((Cv.p (C := osl 61 rectT v36 [⟨2, 2, 2, 3⟩] :: bagS 61 rectT ys :: osl 56 slT v22 (ys.set w32.toNat ⟨v36, [⟨2, 2, 2, 3⟩]⟩) :: src b cv :: L)).trans ((Cv.bagSet w32.toNat (by omega)).trans Cv.p)), fin (ys.set w32.toNat ⟨v36, [⟨2, 2, 2, 3⟩]⟩) (by simpa using hyl) (hset _ _ ⟨by simp, fun r hr => by simp only [List.mem_singleton] at hr; subst hr; exact ⟨by decide, by decide, by decide, by decide⟩⟩)⟩
    · refine WP.seq ?_
      refine WP.region ?_
      refine RG.pv rfl (PV.eql rfl rfl rfl) ?_
      refine RG.pv rfl (PV.mvB (.inr rfl) rfl) ?_
      refine RG.nil ?_
      refine WP.cond rfl (fun h4 => ?_) (fun h4 => ?_)
      · refine WP.seq ?_
        refine WP.region ?_
        refine RG.ot rfl (OT.make (m := 6400) (F := boolT) (a0 := false) rfl El124 rfl (by decide) rfl rfl (by omega) (by omega) fun v40 => ?_)
        refine RG.pv rfl (PV.asg (v := v40) rfl rfl) ?_
        refine RG.nil ?_
        refine WP.seq ?_
        refine WP.seq ?_
        refine WP.region ?_
        refine RG.pv rfl (PV.mvI (.inr rfl) rfl) ?_
        refine RG.nil ?_
        refine WP.block ?_
        refine WP.loop2 [0, 3, 5] (fun (m : Int) (E : List Bool) => 0 ≤ m ∧ m ≤ 28 ∧ E.length = 6400) (fun (m : Int) (E : List Bool) => [(6, vi m)]) (fun (m : Int) (E : List Bool) => osl 4 boolT v40 E :: osl 56 slT v22 ys :: bagS 61 rectT ys :: src b cv :: L) (fun (m : Int) (E : List Bool) => (28 - m).toNat) 0 (List.replicate 6400 false) ⟨by omega, by omega, by simp⟩ ⟨rfl, trivial⟩ Cv.p ?_
        rintro m E τ ⟨hm0, hm1, hE⟩
        refine WP.seq ?_
        refine WP.seq ?_
        refine WP.region ?_
        refine RG.pv rfl (PV.mvI (.inl rfl) rfl) ?_
        refine RG.pv rfl (PV.move rfl rfl) ?_
        refine RG.callF (vs := [_, _]) rfl rfl En106 rfl (CallT.exC (src b cv) (next_s hcode (by omega) (fun w43 hw43 => ?_)))
        refine RG.pv rfl (PV.add rfl rfl rfl (by omega)) ?_
        refine RG.pv rfl (PV.lss rfl rfl rfl) ?_
        refine RG.nil ?_
        refine WP.cond rfl (fun h5 => ?_) (fun h5 => ?_)
        · have h5 := of_decide_eq_true h5
          refine WP.skip ?_
          refine WP.seq ?_
          refine WP.block ?_
          refine WP.region ?_
          refine RG.pv rfl (PV.move (v := v40) rfl rfl) ?_
          refine RG.pv rfl (PV.mvI (.inl rfl) rfl) ?_
          refine RG.pv rfl (PV.mul rfl rfl rfl (by omega)) ?_
          refine RG.pv rfl (PV.sub rfl rfl rfl (by omega)) ?_
          refine RG.callF (vs := [_, _]) rfl rfl En107 rfl (l17At_s (by omega) (by omega) ?_)
          refine RG.pv rfl (PV.idxS (j := ((20 + 40) * 80 + (2 * m - 30) + 40).toNat) (v := v40) rfl Is124 rfl SlF.o rfl (by omega) (by omega)) ?_
          refine RG.ot rfl (OT.storeE (F := boolT) rfl Sz4 rfl rfl rfl (Cl.c rfl) (OneC.c rfl) (by omega) ?_)
          refine RG.nil ?_
          refine WP.region ?_
          refine RG.pv rfl (PV.mvI (.inl rfl) rfl) ?_
          refine RG.pv rfl (PV.add rfl rfl rfl (by omega)) ?_
          refine RG.pv rfl (PV.mvI (.inr rfl) rfl) ?_
          refine RG.nil ?_
          exact ⟨rfl, m + 1, (E.set ((20 + 40) * 80 + (2 * m - 30) + 40).toNat true), ⟨by omega, by omega, by simpa using hE⟩, ⟨rfl, trivial⟩, ⟨rfl, rfl, rfl, trivial⟩, Cv.p, by omega⟩
        · skip
          refine WP.exit ?_
          refine WP.region ?_
          refine RG.pv rfl (PV.move (v := v22) rfl rfl) ?_
          refine RG.pv rfl (PV.move (v := v40) rfl rfl) ?_
          refine RG.callF (vs := [v40]) rfl rfl En108 rfl (l03Canon_s Rs.o hE (fun v56 => ?_))
          refine RG.pv rfl (PV.idxS (j := 5) (v := v22) rfl Is29 rfl SlF.o rfl (by omega) (by omega)) ?_
          refine RG.ot rfl (OT.storeE (v := v56) (a := ⟨v56, canon E⟩) (F := (slT (α := Rect))) rfl Sz56 rfl rfl rfl (Cl.s (v := v56) SlF.o) (OneC.sl SlF.o OneC.nil) (by omega) ?_)
          refine RG.nil ?_
          refine WP.seq ?_
          refine WP.region ?_
          refine RG.pv rfl (PV.move (v := v22) rfl rfl) ?_
          refine RG.pv rfl (PV.asg (v := v22) rfl rfl) ?_
          refine RG.nil ?_
          refine WP.ret ?_
          exact ⟨_, _, ResV.one rfl rfl, ((Cv.p (C := osl 61 rectT v56 (canon E) :: bagS 61 rectT ys :: osl 56 slT v22 (ys.set 5 ⟨v56, canon E⟩) :: src b cv :: L)).trans ((Cv.bagSet 5 (by omega)).trans Cv.p)), fin (ys.set 5 ⟨v56, canon E⟩) (by simpa using hyl) (hset _ _ (RL_all (isReg_canon hE)))⟩
      · refine WP.skip ?_
        refine WP.seq ?_
        refine WP.region ?_
        refine RG.pv rfl (PV.move (v := v22) rfl rfl) ?_
        refine RG.pv rfl (PV.asg (v := v22) rfl rfl) ?_
        refine RG.nil ?_
        refine WP.ret ?_
        exact ⟨_, _, ResV.one rfl rfl, Cv.p, fin ys hyl hin⟩
theorem positive_s {n : Int} (k : R (vi (max 1 n)) G L) : CallT Tryz.prog 193 #[vi n] G L R := by
  refine CallT.enter (args := _) Tryz.func193 rfl rfl (by kernel_rfl) rfl ?_
  refine WP.seq ?_
  refine WP.region ?_
  refine RG.pv rfl (PV.mvI (.inr rfl) rfl) ?_
  refine RG.nil ?_
  refine WP.seq ?_
  refine WP.region ?_
  refine RG.pv rfl (PV.mvI (.inl rfl) rfl) ?_
  refine RG.pv rfl (PV.max2 rfl rfl rfl) ?_
  refine RG.pv rfl (PV.mvI (.inr rfl) rfl) ?_
  refine RG.nil ?_
  refine WP.ret ?_
  exact ⟨_, _, ResV.one rfl rfl, Cv.p, k⟩
theorem drawCell_s {b : Nat} {cv v : Value} {xs : List Rect} {bs : List UInt8} (hcode : SL G byteT cv bs) (h1 : Rs G L rectT v xs) (hr : RL xs) (k : ∀ p : Pt, R (vpt p) G (src b cv :: L)) : CallT Tryz.prog 153 #[.pointer (some ⟨b, 0, none⟩), v] G (src b cv :: L) R := by
  obtain ⟨hl, hx⟩ := hr
  refine CallT.enter (args := _) Tryz.func153 rfl rfl (by kernel_rfl) rfl ?_
  refine WP.seq ?_
  refine WP.region ?_
  refine RG.ot rfl (OT.alloc rfl Zr49 fun b4 => ?_)
  refine RG.nil ?_
  refine WP.seq ?_
  refine WP.seq ?_
  refine WP.region ?_
  refine RG.pv rfl (PV.move (v := v) rfl rfl) ?_
  refine RG.pv rfl (PV.len (v := v) rfl Tryz.underlying56 rfl (SlF.r h1)) ?_
  refine RG.pv rfl (PV.gtr rfl rfl rfl) ?_
  refine RG.pv rfl (PV.mvB (.inl rfl) rfl) ?_
  refine RG.spl (t := 9) rfl (fun g1 => ?_) (fun g1 => ?_)
  · have g2 := of_decide_eq_true g1
    have hx2 : ∀ w : Int, 0 ≤ w ∧ (w < xs.length ∨ w = 0) → (-40 ≤ (gd xs w.toNat).x0 ∧ (gd xs w.toNat).x0 ≤ 40) ∧ (-40 ≤ (gd xs w.toNat).x1 ∧ (gd xs w.toNat).x1 ≤ 40) ∧ (-40 ≤ (gd xs w.toNat).y0 ∧ (gd xs w.toNat).y0 ≤ 40) ∧ (-40 ≤ (gd xs w.toNat).y1 ∧ (gd xs w.toNat).y1 ≤ 40) := fun w hw => hx _ (gd_mem (by omega))
    refine RG.take rfl rfl rfl g1 ?_
    refine RG.pv rfl (PV.move rfl rfl) ?_
    refine RG.take rfl rfl rfl g1 ?_
    refine RG.callF (vs := [_, _]) rfl rfl En106 rfl (CallT.exC (src b cv) (next_s hcode (by omega) (fun w11 hw11 => ?_)))
    refine RG.take rfl rfl rfl g1 ?_
    refine RG.pv rfl (PV.gtr rfl rfl rfl) ?_
    refine RG.pv rfl (PV.pickT rfl rfl g1 rfl) ?_
    refine RG.nil ?_
    refine WP.cond rfl (fun h2 => ?_) (fun h2 => ?_)
    · skip
      refine WP.seq ?_
      refine WP.region ?_
      refine RG.pv rfl (PV.move (v := v) rfl rfl) ?_
      refine RG.pv rfl (PV.move rfl rfl) ?_
      refine RG.pv rfl (PV.move (v := v) rfl rfl) ?_
      refine RG.pv rfl (PV.len (v := v) rfl Tryz.underlying56 rfl (SlF.r h1)) ?_
      refine RG.callF (vs := [_, _]) rfl rfl En106 rfl (CallT.exC (src b cv) (next_s hcode (by omega) (fun w18 hw18 => have hrb := hx2 w18 hw18; ?_)))
      refine RG.pv rfl (PV.idxS (j := w18.toNat) (v := v) rfl Is56 rfl (SlF.r h1) rfl (by omega) (by omega)) ?_
      refine RG.pv rfl (PV.loadE rfl Ag61 rfl rfl (El.r h1 (getG (by omega)))) ?_
      refine RG.ot rfl (OT.alloc rfl Zr61 fun b5 => ?_)
      refine RG.ot rfl (OT.storeW (vs := [vi _, vi _, vi _, vi _]) rfl Sz61 rfl rfl (Cl.c rfl) rfl rfl (OneC.c rfl) ?_)
      refine RG.nil ?_
      refine WP.seq ?_
      refine WP.regionHD [.b b4] (.q 0 (.q 1 (.q 2 (.q 3 (.q 4 (.q 5 (.q 6 (.q 7 (.q 11 (.q 12 (.q 13 (.q 14 (.q 15 (.q 16 (.q 17 (.q 18 (.l 8 (.l 9 (.q 10 (.l 19 (.l 20 (.q 21 (.q 22 (.l 23 Sch.nil)))))))))))))))))))))))) (by kernel_rfl) (by kernel_rfl) (by kernel_rfl) rfl ?_
      refine RH.pv rfl (fun _ _ _ _ h => h) (Gh.le_refl _) PickC.pick rfl (PV.field rfl Fo61_0 rfl) ?_
      refine RH.pv rfl (fun _ _ _ _ h => h) (Gh.le_refl _) PickC.pick rfl (PV.load1 rfl Sc2 rfl (Rd.blk rfl)) ?_
      refine RH.pv rfl (fun _ _ _ _ h => h) (Gh.le_refl _) PickC.pick rfl (PV.move rfl rfl) ?_
      refine RH.pv rfl (fun _ _ _ _ h => h) (Gh.le_refl _) PickC.pick rfl (PV.field rfl Fo61_2 rfl) ?_
      refine RH.pv rfl (fun _ _ _ _ h => h) (Gh.le_refl _) PickC.pick rfl (PV.load1 rfl Sc2 rfl (Rd.blk rfl)) ?_
      refine RH.pv rfl (fun _ _ _ _ h => h) (Gh.le_refl _) PickC.pick rfl (PV.field rfl Fo61_0 rfl) ?_
      refine RH.pv rfl (fun _ _ _ _ h => h) (Gh.le_refl _) PickC.pick rfl (PV.load1 rfl Sc2 rfl (Rd.blk rfl)) ?_
      refine RH.pv rfl (fun _ _ _ _ h => h) (Gh.le_refl _) PickC.pick rfl (PV.sub rfl rfl rfl (by omega)) ?_
      refine RH.pv rfl (fun _ _ _ _ h => h) (Gh.le_refl _) PickC.pick rfl (PV.field rfl Fo61_1 rfl) ?_
      refine RH.pv rfl (fun _ _ _ _ h => h) (Gh.le_refl _) PickC.pick rfl (PV.load1 rfl Sc2 rfl (Rd.blk rfl)) ?_
      refine RH.pv rfl (fun _ _ _ _ h => h) (Gh.le_refl _) PickC.pick rfl (PV.move rfl rfl) ?_
      refine RH.pv rfl (fun _ _ _ _ h => h) (Gh.le_refl _) PickC.pick rfl (PV.field rfl Fo61_3 rfl) ?_
      refine RH.pv rfl (fun _ _ _ _ h => h) (Gh.le_refl _) PickC.pick rfl (PV.load1 rfl Sc2 rfl (Rd.blk rfl)) ?_
      refine RH.pv rfl (fun _ _ _ _ h => h) (Gh.le_refl _) PickC.pick rfl (PV.field rfl Fo61_1 rfl) ?_
      refine RH.pv rfl (fun _ _ _ _ h => h) (Gh.le_refl _) PickC.pick rfl (PV.load1 rfl Sc2 rfl (Rd.blk rfl)) ?_
      refine RH.pv rfl (fun _ _ _ _ h => h) (Gh.le_refl _) PickC.pick rfl (PV.sub rfl rfl rfl (by omega)) ?_
      refine RH.ot rfl rfl (OT.callF (vs := [_]) rfl En193 rfl (positive_s ⟨Gh.le_refl _, PickC.pick, ?_⟩))
      refine RH.ot rfl rfl (OT.callF (vs := [_, _]) rfl En106 rfl (CallT.exC (src b cv) (next_s hcode (by omega) (fun w30 hw30 => ⟨Gh.le_refl _, PickC.pick, ?_⟩))))
      refine RH.pv rfl (fun _ _ _ _ h => h) (Gh.le_refl _) PickC.pick rfl (PV.add rfl rfl rfl (by omega)) ?_
      refine RH.ot rfl rfl (OT.callF (vs := [_]) rfl En193 rfl (positive_s ⟨Gh.le_refl _, PickC.pick, ?_⟩))
      refine RH.ot rfl rfl (OT.callF (vs := [_, _]) rfl En106 rfl (CallT.exC (src b cv) (next_s hcode (by omega) (fun w41 hw41 => ⟨Gh.le_refl _, PickC.pick, ?_⟩))))
      refine RH.pv rfl (fun _ _ _ _ h => h) (Gh.le_refl _) PickC.pick rfl (PV.add rfl rfl rfl (by omega)) ?_
      refine RH.pv rfl (fun _ _ _ _ h => h) (Gh.le_refl _) PickC.pick rfl (PV.build (vs := [(0, [vi _]), (1, [vi _])]) (out := [_, _]) rfl Zr49 Pl49 ⟨rfl, (Cl.c rfl), ⟨rfl, (Cl.c rfl), trivial⟩⟩ rfl) ?_
      refine RH.ot rfl rfl (OT.storeW (vs := [vi _, vi _]) rfl Sz49 rfl rfl (Cl.c rfl) rfl rfl (OneC.c rfl) ⟨Gh.le_refl _, PickC.pick, ?_⟩)
      refine RH.nil ?_
      refine WP.ret ?_
      exact ⟨_, _, ResV.one rfl (RV1.cell rfl Ag49 rfl), Cv.p, k ⟨_, _⟩⟩
    · refine WP.skip ?_
      refine WP.seq ?_
      refine WP.region ?_
      refine RG.pv rfl (PV.move rfl rfl) ?_
      refine RG.callF (vs := [_, _]) rfl rfl En106 rfl (CallT.exC (src b cv) (next_s hcode (by omega) (fun w45 hw45 => ?_)))
      refine RG.pv rfl (PV.sub rfl rfl rfl (by omega)) ?_
      refine RG.pv rfl (PV.move rfl rfl) ?_
      refine RG.callF (vs := [_, _]) rfl rfl En106 rfl (CallT.exC (src b cv) (next_s hcode (by omega) (fun w48 hw48 => ?_)))
      refine RG.pv rfl (PV.sub rfl rfl rfl (by omega)) ?_
      refine RG.pv rfl (PV.build (vs := [(0, [vi _]), (1, [vi _])]) (out := [_, _]) rfl Zr49 Pl49 ⟨rfl, (Cl.c rfl), ⟨rfl, (Cl.c rfl), trivial⟩⟩ rfl) ?_
      refine RG.ot rfl (OT.storeW (vs := [vi _, vi _]) rfl Sz49 rfl rfl (Cl.c rfl) rfl rfl (OneC.c rfl) ?_)
      refine RG.nil ?_
      refine WP.ret ?_
      exact ⟨_, _, ResV.one rfl (RV1.cell rfl Ag49 rfl), Cv.p, k ⟨_, _⟩⟩
  · refine RG.skip rfl rfl rfl (gne g1) ?_
    refine RG.skip rfl rfl rfl (gne g1) ?_
    refine RG.skip rfl rfl rfl (gne g1) ?_
    refine RG.pv rfl (PV.pickE rfl rfl g1 rfl) ?_
    refine RG.nil ?_
    refine WP.cond rfl (fun h2 => ?_) (fun h2 => ?_)
    · cases h2
    · refine WP.skip ?_
      refine WP.seq ?_
      refine WP.region ?_
      refine RG.pv rfl (PV.move rfl rfl) ?_
      refine RG.callF (vs := [_, _]) rfl rfl En106 rfl (CallT.exC (src b cv) (next_s hcode (by omega) (fun w45 hw45 => ?_)))
      refine RG.pv rfl (PV.sub rfl rfl rfl (by omega)) ?_
      refine RG.pv rfl (PV.move rfl rfl) ?_
      refine RG.callF (vs := [_, _]) rfl rfl En106 rfl (CallT.exC (src b cv) (next_s hcode (by omega) (fun w48 hw48 => ?_)))
      refine RG.pv rfl (PV.sub rfl rfl rfl (by omega)) ?_
      refine RG.pv rfl (PV.build (vs := [(0, [vi _]), (1, [vi _])]) (out := [_, _]) rfl Zr49 Pl49 ⟨rfl, (Cl.c rfl), ⟨rfl, (Cl.c rfl), trivial⟩⟩ rfl) ?_
      refine RG.ot rfl (OT.storeW (vs := [vi _, vi _]) rfl Sz49 rfl rfl (Cl.c rfl) rfl rfl (OneC.c rfl) ?_)
      refine RG.nil ?_
      refine WP.ret ?_
      exact ⟨_, _, ResV.one rfl (RV1.cell rfl Ag49 rfl), Cv.p, k ⟨_, _⟩⟩
theorem lay8 : ∀ w : Int, 0 ≤ w ∧ (w < 8 ∨ w = 0) → 0 ≤ gd [0, 1, 3, 5, 3, 2, 7, (8 : Int)] w.toNat ∧ gd [0, 1, 3, 5, 3, 2, 7, (8 : Int)] w.toNat ≤ 8 := fun w hw => by
  have h8 : w.toNat < 8 := by omega
  have := gd_mem (xs := [0, 1, 3, 5, 3, 2, 7, (8 : Int)]) (i := w.toNat) h8
  simp only [List.mem_cons, List.not_mem_nil, or_false] at this
  omega
theorem drawPlace_s {b : Nat} {cv v : Value} {xs : List (Sl Rect)} {bs : List UInt8} (hcode : SL G byteT cv bs) (h1 : Rs G L slT v xs) (hd : ∀ i, i < xs.length → Rs G L rectT (gd xs i).v (gd xs i).xs) (hx : ∀ i, i < xs.length → RL (gd xs i).xs) (k : ∀ (n : Int) (p : Pt), 0 ≤ n ∧ n ≤ 8 → R (.tuple #[vi n, vpt p]) G (src b cv :: L)) : CallT Tryz.prog 109 #[.pointer (some ⟨b, 0, none⟩), v] G (src b cv :: L) R := by
  refine CallT.bd (Rs.up h1) fun hbd => ?_
  have hll8 : ([0, 1, 3, 5, 3, 2, 7, (8 : Int)] : List Int).length = 8 := rfl
  refine CallT.enter (args := _) Tryz.func109 rfl rfl (by kernel_rfl) rfl ?_
  refine WP.seq ?_
  refine WP.region ?_
  refine RG.pv rfl (PV.mvI (.inr rfl) rfl) ?_
  refine RG.ot rfl (OT.alloc rfl Zr49 fun b5 => ?_)
  refine RG.nil ?_
  refine WP.seq ?_
  refine WP.region ?_
  refine RG.ot rfl (OT.bslice (F := intT) (els := [_, _, _, _, _, _, _, _]) rfl El26 rfl (by decide) rfl (by decide) ⟨rfl, (Cl.c rfl), ⟨rfl, (Cl.c rfl), ⟨rfl, (Cl.c rfl), ⟨rfl, (Cl.c rfl), ⟨rfl, (Cl.c rfl), ⟨rfl, (Cl.c rfl), ⟨rfl, (Cl.c rfl), ⟨rfl, (Cl.c rfl), trivial⟩⟩⟩⟩⟩⟩⟩⟩ fun v7 => ?_)
  refine RG.pv rfl (PV.move rfl rfl) ?_
  refine RG.callF (vs := [_, _]) rfl rfl En106 rfl (CallT.exC (src b cv) (next_s hcode (by omega) (fun w9 hw9 => have hl8 := lay8 w9 hw9; ?_)))
  refine RG.pv rfl (PV.idxS (j := w9.toNat) (v := v7) rfl Is26 rfl SlF.o rfl (by omega) (by omega)) ?_
  refine RG.pv rfl (PV.loadE1 rfl Sc2 rfl rfl (El.o (getG (by omega))) rfl) ?_
  refine RG.pv rfl (PV.mvI (.inr rfl) rfl) ?_
  refine RG.nil ?_
  refine WP.seq ?_
  refine WP.seq ?_
  refine WP.region ?_
  refine RG.pv rfl (PV.mvI (.inl rfl) rfl) ?_
  refine RG.pv rfl (PV.move (v := v) rfl rfl) ?_
  refine RG.pv rfl (PV.len (v := v) rfl Tryz.underlying29 rfl (SlF.r h1)) ?_
  refine RG.pv rfl (PV.lss rfl rfl rfl) ?_
  refine RG.nil ?_
  refine WP.cond rfl (fun h2 => ?_) (fun h2 => ?_)
  · have h2 := of_decide_eq_true h2
    refine WP.seq ?_
    refine WP.region ?_
    refine RG.pv rfl (PV.mvI (.inl rfl) rfl) ?_
    refine RG.pv rfl (PV.move rfl rfl) ?_
    refine RG.pv rfl (PV.move (v := v) rfl rfl) ?_
    refine RG.pv rfl (PV.mvI (.inl rfl) rfl) ?_
    refine RG.pv rfl (PV.idxS (j := (gd [0, 1, 3, 5, 3, 2, 7, (8 : Int)] w9.toNat).toNat) (v := v) rfl Is29 rfl (SlF.r h1) rfl (by omega) (by omega)) ?_
    refine RG.pv rfl (PV.loadE1 rfl Sc56 rfl rfl (El.r h1 (getG (by omega))) rfl) ?_
    refine RG.callF (vs := [_, _]) rfl rfl En153 rfl (CallT.exC (src b cv) (drawCell_s hcode (Rs.up (hd (gd [0, 1, 3, 5, 3, 2, 7, (8 : Int)] w9.toNat).toNat (by omega))) (hx (gd [0, 1, 3, 5, 3, 2, 7, (8 : Int)] w9.toNat).toNat (by omega)) (fun pw22 => ?_)))
    refine RG.pv rfl (PV.mvI (.inr rfl) rfl) ?_
    refine RG.ot rfl (OT.storeW (vs := [vi _, vi _]) rfl Sz49 rfl rfl (Cl.c rfl) rfl rfl (OneC.c rfl) ?_)
    refine RG.nil ?_
    refine WP.ret ?_
    exact ⟨_, _, ResV.two rfl rfl (RV1.cell rfl Ag49 rfl), Cv.p, k _ _ hl8⟩
  · refine WP.skip ?_
    refine WP.seq ?_
    refine WP.region ?_
    refine RG.pv rfl (PV.mvI (.inl rfl) rfl) ?_
    refine RG.pv rfl (PV.move rfl rfl) ?_
    refine RG.callF (vs := [_, _]) rfl rfl En106 rfl (CallT.exC (src b cv) (next_s hcode (by omega) (fun w25 hw25 => ?_)))
    refine RG.pv rfl (PV.sub rfl rfl rfl (by omega)) ?_
    refine RG.pv rfl (PV.move rfl rfl) ?_
    refine RG.callF (vs := [_, _]) rfl rfl En106 rfl (CallT.exC (src b cv) (next_s hcode (by omega) (fun w28 hw28 => ?_)))
    refine RG.pv rfl (PV.sub rfl rfl rfl (by omega)) ?_
    refine RG.pv rfl (PV.build (vs := [(0, [vi _]), (1, [vi _])]) (out := [_, _]) rfl Zr49 Pl49 ⟨rfl, (Cl.c rfl), ⟨rfl, (Cl.c rfl), trivial⟩⟩ rfl) ?_
    refine RG.pv rfl (PV.mvI (.inr rfl) rfl) ?_
    refine RG.ot rfl (OT.storeW (vs := [vi _, vi _]) rfl Sz49 rfl rfl (Cl.c rfl) rfl rfl (OneC.c rfl) ?_)
    refine RG.nil ?_
    refine WP.ret ?_
    exact ⟨_, _, ResV.two rfl rfl (RV1.cell rfl Ag49 rfl), Cv.p, k _ ⟨_, _⟩ hl8⟩
def NmOk (ls : List Label) : Prop := ∀ b ∈ ls, b.name.size ≤ 9
theorem NmOk.app {ls : List Label} {b : Label} (h : NmOk ls) (hb : b.name.size ≤ 9) : NmOk (ls ++ [b]) := fun c hc => by
  rcases List.mem_append.1 hc with h1 | h1
  · exact h c h1
  · simp only [List.mem_singleton] at h1; subst h1; exact hb
abbrev nm5 : List ByteArray := [ByteArray.mk #[97], ByteArray.mk #[98], ByteArray.mk #[99], ByteArray.mk #[111, 117, 116], ByteArray.mk #[105, 110, 49]]
abbrev nm3 : List ByteArray := [ByteArray.mk #[], ByteArray.mk #[65], ByteArray.mk #[97, 98, 99, 100, 101, 102, 103, 104, 105]]
theorem nm5_ok {w : Int} (hw : 0 ≤ w ∧ (w < 5 ∨ w = 0)) : (gd nm5 w.toNat).size ≤ 9 := by
  have h5 : w.toNat < 5 := by omega
  have := gd_mem (xs := nm5) (i := w.toNat) h5
  have key : ∀ b ∈ nm5, b.size ≤ 9 := by decide
  exact key _ this
theorem nm3_ok {w : Int} (hw : 0 ≤ w ∧ (w < 3 ∨ w = 0)) : (gd nm3 w.toNat).size ≤ 9 := by
  have h5 : w.toNat < 3 := by omega
  have := gd_mem (xs := nm3) (i := w.toNat) h5
  have key : ∀ b ∈ nm3, b.size ≤ 9 := by decide
  exact key _ this
theorem drawLabels_s {b : Nat} {cv v : Value} {xs : List (Sl Rect)} {bs : List UInt8} (hcode : SL G byteT cv bs) (h1 : Rs G L slT v xs) (hd : ∀ i, i < xs.length → Rs G L rectT (gd xs i).v (gd xs i).xs) (hx : ∀ i, i < xs.length → RL (gd xs i).xs) (k : ∀ v' ls, ls.length ≤ 6 → NmOk ls → R v' G (osl 51 labelT v' ls :: src b cv :: L)) : CallT Tryz.prog 63 #[.pointer (some ⟨b, 0, none⟩), v] G (src b cv :: L) R := by
  have hl5 : nm5.length = 5 := rfl
  have hl3 : nm3.length = 3 := rfl
  refine CallT.enter (args := _) Tryz.func63 rfl rfl (by kernel_rfl) rfl ?_
  refine WP.seq ?_
  refine WP.region ?_
  refine RG.pv rfl (PV.asg rfl rfl) ?_
  refine RG.nil ?_
  refine WP.seq ?_
  refine WP.region ?_
  refine RG.ot rfl (OT.bslice (F := labelT) (els := []) rfl El31 rfl (by decide) rfl (by decide) trivial fun v9 => ?_)
  refine RG.pv rfl (PV.asg (v := v9) rfl rfl) ?_
  refine RG.nil ?_
  refine WP.seq ?_
  refine WP.seq ?_
  refine WP.region ?_
  refine RG.pv rfl (PV.move rfl rfl) ?_
  refine RG.callF (vs := [_, _]) rfl rfl En106 rfl (CallT.exC (src b cv) (next_s hcode (by omega) (fun w11 hw11 => ?_)))
  refine RG.pv rfl (PV.mvI (.inr rfl) rfl) ?_
  refine RG.nil ?_
  refine WP.block ?_
  refine WP.loop3 [0, 1] (fun (j : Int) (ls : List Label) (q : Value) => (0 ≤ j ∧ j ≤ 5) ∧ (ls.length : Int) + j ≤ 5 ∧ NmOk ls) (fun (j : Int) (ls : List Label) (q : Value) => [(6, vi j), (5, q)]) (fun (j : Int) (ls : List Label) (q : Value) => osl 51 labelT q ls :: src b cv :: L) (fun (j : Int) (ls : List Label) (q : Value) => j.toNat) w11 [] v9 ⟨by omega, by simp; omega, fun b h => by cases h⟩ ⟨rfl, rfl, trivial⟩ Cv.p ?_
  rintro j ls q τ ⟨hj, hls, hnm⟩
  refine WP.seq ?_
  refine WP.seq ?_
  refine WP.region ?_
  refine RG.pv rfl (PV.mvI (.inl rfl) rfl) ?_
  refine RG.pv rfl (PV.gtr rfl rfl rfl) ?_
  refine RG.nil ?_
  refine WP.cond rfl (fun h2 => ?_) (fun h2 => ?_)
  · have h2 := of_decide_eq_true h2
    refine WP.skip ?_
    refine WP.seq ?_
    refine WP.block ?_
    refine WP.seq ?_
    refine WP.region ?_
    refine RG.pv rfl (PV.move rfl rfl) ?_
    refine RG.pv rfl (PV.move (v := v) rfl rfl) ?_
    refine RG.callF (vs := [_, v]) rfl rfl En109 rfl (CallT.exC (src b cv) (drawPlace_s hcode (Rs.up h1) (fun i hi => Rs.up (hd i hi)) hx (fun nw19 pw19 hnw19 => ?_)))
    refine RG.pv rfl (PV.move (v := .tuple _) rfl rfl) ?_
    refine RG.pv rfl (PV.ext rfl rfl rfl) ?_
    refine RG.pv rfl (PV.ext rfl rfl rfl) ?_
    refine RG.ot rfl (OT.alloc rfl Zr49 fun b8 => ?_)
    refine RG.pv rfl (PV.mvI (.inr rfl) rfl) ?_
    refine RG.ot rfl (OT.storeW (vs := [vi _, vi _]) rfl Sz49 rfl rfl (Cl.c rfl) rfl rfl (OneC.c rfl) ?_)
    refine RG.nil ?_
    refine WP.cut2 [0, 1, 5, 6, 8] (fun (n2 : Int) (p2 : Pt) => True) (fun (n2 : Int) (p2 : Pt) => [(7, vi n2)]) (fun (n2 : Int) (p2 : Pt) => blk b8 49 (ptT.enc p2) :: osl 51 labelT q ls :: src b cv :: L) ?_ ?_
    refine WP.seq ?_
    refine WP.region ?_
    refine RG.pv rfl (PV.move rfl rfl) ?_
    refine RG.callF (vs := [_, _]) rfl rfl En106 rfl (CallT.exC (src b cv) (next_s hcode (by omega) (fun w23 hw23 => ?_)))
    refine RG.pv rfl (PV.gtr rfl rfl rfl) ?_
    refine RG.nil ?_
    · refine WP.cond rfl (fun h3 => ?_) (fun h3 => ?_)
      · refine WP.seq ?_
        refine WP.region ?_
        refine RG.pv rfl (PV.mvI (.inl rfl) rfl) ?_
        refine RG.pv rfl (PV.rem rfl rfl rfl (by omega) (by omega) (by omega)) ?_
        refine RG.pv rfl (PV.mvI (.inr rfl) rfl) ?_
        refine RG.nil ?_
        refine WP.region ?_
        refine RG.pv rfl (PV.field rfl Fo49_0 rfl) ?_
        refine RG.pv rfl (PV.load1 rfl Sc2 rfl (Rd.blk rfl)) ?_
        refine RG.pv rfl (PV.min2 rfl rfl rfl) ?_
        refine RG.pv rfl (PV.max2 rfl rfl rfl) ?_
        refine RG.pv rfl (PV.field rfl Fo49_1 rfl) ?_
        refine RG.pv rfl (PV.load1 rfl Sc2 rfl (Rd.blk rfl)) ?_
        refine RG.pv rfl (PV.min2 rfl rfl rfl) ?_
        refine RG.pv rfl (PV.max2 rfl rfl rfl) ?_
        refine RG.pv rfl (PV.build (vs := [(0, [vi _]), (1, [vi _])]) (out := [_, _]) rfl Zr49 Pl49 ⟨rfl, (Cl.c rfl), ⟨rfl, (Cl.c rfl), trivial⟩⟩ rfl) ?_
        refine RG.ot rfl (OT.storeW (vs := [vi _, vi _]) rfl Sz49 rfl rfl (Cl.c rfl) rfl rfl (OneC.c rfl) ?_)
        refine RG.nil ?_
        exact ⟨rfl, _, ⟨max (-40) (min 39 pw19.x), max (-40) (min 39 pw19.y)⟩, trivial, ⟨rfl, trivial⟩, ⟨rfl, rfl, rfl, rfl, rfl, trivial⟩, Cv.p⟩
      · refine WP.skip ?_
        exact ⟨rfl, _, pw19, trivial, ⟨rfl, trivial⟩, ⟨rfl, rfl, rfl, rfl, rfl, trivial⟩, Cv.p⟩
    rintro n2 p2 τ1 _
    refine WP.regionHD [.s q] (.q 0 (.q 1 (.q 2 (.q 4 (.b 3 (.l 5 (.q 6 (.q 7 (.q 8 (.l 9 (.l 10 (.q 11 Sch.nil))))))) 5 (.l 3 (.q 6 (.q 7 (.q 8 (.l 9 (.l 10 (.q 11 Sch.nil)))))))))))) (by kernel_rfl) (by kernel_rfl) (by kernel_rfl) rfl ?_
    refine RH.pv rfl (fun _ _ _ _ h => h) (Gh.le_refl _) PickC.pick rfl (PV.move (v := q) rfl rfl) ?_
    refine RH.pv rfl (fun _ _ _ _ h => h) (Gh.le_refl _) PickC.pick rfl (PV.mvI (.inl rfl) rfl) ?_
    refine RH.pv rfl (fun _ _ _ _ h => h) (Gh.le_refl _) PickC.pick rfl (PV.loadW rfl Ag49 rfl rfl) ?_
    refine RH.pv rfl (fun _ _ _ _ h => h) (Gh.le_refl _) PickC.pick rfl (PV.move rfl rfl) ?_
    refine RH.ot2 rfl rfl rfl rfl  (OT.bslice (F := strT) (els := [_, _, _, _, _]) rfl El45 rfl (by decide) rfl (by decide) ⟨rfl, (Cl.c rfl), ⟨rfl, (Cl.c rfl), ⟨rfl, (Cl.c rfl), ⟨rfl, (Cl.c rfl), ⟨rfl, (Cl.c rfl), trivial⟩⟩⟩⟩⟩ fun v39 => ⟨Gh.le_refl _, PickC.pick, ?_⟩) (OT.callF (vs := [_, _]) rfl En106 rfl (CallT.exC (src b cv) (next_s hcode (by omega) (fun w41 hw41 => ⟨Gh.le_refl _, PickC.pick, ?_⟩))))
    · refine RH.up1 ?_
      refine RH.ot rfl rfl (OT.callF (vs := [_, _]) rfl En106 rfl (CallT.exC (src b cv) (next_s hcode (by omega) (fun w41 hw41 => ⟨Gh.le_refl _, PickC.pick, ?_⟩))))
      refine RH.pv rfl (fun _ _ _ _ h => h) (Gh.le_refl _) PickC.pick rfl (PV.idxS (j := w41.toNat) (v := v39) rfl Is45 rfl SlF.o rfl (by first | omega | (simp only [List.length_cons, List.length_nil]; omega)) (by first | omega | (simp only [List.length_cons, List.length_nil]; omega))) ?_
      refine RH.pv rfl (fun _ _ _ _ h => h) (Gh.le_refl _) PickC.pick rfl (PV.loadE1 rfl Sc9 rfl rfl (El.o (getG (by first | omega | (simp only [List.length_cons, List.length_nil]; omega)))) rfl) ?_
      refine RH.pv rfl (fun _ _ _ _ h => h) (Gh.le_refl _) PickC.pick rfl (PV.build (vs := [(0, [vi _]), (1, [vi _, vi _]), (2, [.string _])]) (out := [_, _, _, _]) rfl Zr51 Pl51 ⟨rfl, (Cl.c rfl), ⟨rfl, (Cl.c rfl), ⟨rfl, (Cl.c rfl), trivial⟩⟩⟩ rfl) ?_
      refine RH.ot rfl rfl (OT.bslice (F := labelT) (els := [⟨n2, p2, gd nm5 w41.toNat⟩]) rfl El31 rfl (by decide) rfl (by decide) ⟨rfl, (Cl.c rfl), trivial⟩ fun v45 => ⟨Gh.le_refl _, PickC.pick, ?_⟩)
      refine RH.ot rfl rfl (OT.append (v := q) (u := v45) (F := labelT) rfl El31 rfl (by decide) rfl rfl Rs.o (OneL.c (fun _ => rfl)) rfl (by first | omega | (simp <;> omega)) fun v46 => ⟨Gh.le_refl _, PickC.pick, ?_⟩)
      refine RH.pv rfl (fun _ _ _ _ h => h) (Gh.le_refl _) PickC.pick rfl (PV.asg (v := v46) rfl rfl) ?_
      refine RH.nil ?_
      refine WP.region ?_
      refine RG.pv rfl (PV.mvI (.inl rfl) rfl) ?_
      refine RG.pv rfl (PV.sub rfl rfl rfl (by first | omega | (simp only [List.length_cons, List.length_nil]; omega))) ?_
      refine RG.pv rfl (PV.mvI (.inr rfl) rfl) ?_
      refine RG.nil ?_
      exact ⟨rfl, j - 1, (ls ++ [⟨n2, p2, gd nm5 w41.toNat⟩]), v46, ⟨by omega, by simp; omega, hnm.app (nm5_ok hw41)⟩, ⟨rfl, rfl, trivial⟩, ⟨rfl, rfl, trivial⟩, Cv.p, by omega⟩
    · refine RH.ot rfl rfl (OT.bslice (F := strT) (els := [_, _, _, _, _]) rfl El45 rfl (by decide) rfl (by decide) ⟨rfl, (Cl.c rfl), ⟨rfl, (Cl.c rfl), ⟨rfl, (Cl.c rfl), ⟨rfl, (Cl.c rfl), ⟨rfl, (Cl.c rfl), trivial⟩⟩⟩⟩⟩ fun v39 => ⟨Gh.le_refl _, PickC.pick, ?_⟩)
      refine RH.up1 ?_
      refine RH.pv rfl (fun _ _ _ _ h => h) (Gh.le_refl _) PickC.pick rfl (PV.idxS (j := w41.toNat) (v := v39) rfl Is45 rfl SlF.o rfl (by first | omega | (simp only [List.length_cons, List.length_nil]; omega)) (by first | omega | (simp only [List.length_cons, List.length_nil]; omega))) ?_
      refine RH.pv rfl (fun _ _ _ _ h => h) (Gh.le_refl _) PickC.pick rfl (PV.loadE1 rfl Sc9 rfl rfl (El.o (getG (by first | omega | (simp only [List.length_cons, List.length_nil]; omega)))) rfl) ?_
      refine RH.pv rfl (fun _ _ _ _ h => h) (Gh.le_refl _) PickC.pick rfl (PV.build (vs := [(0, [vi _]), (1, [vi _, vi _]), (2, [.string _])]) (out := [_, _, _, _]) rfl Zr51 Pl51 ⟨rfl, (Cl.c rfl), ⟨rfl, (Cl.c rfl), ⟨rfl, (Cl.c rfl), trivial⟩⟩⟩ rfl) ?_
      refine RH.ot rfl rfl (OT.bslice (F := labelT) (els := [⟨n2, p2, gd nm5 w41.toNat⟩]) rfl El31 rfl (by decide) rfl (by decide) ⟨rfl, (Cl.c rfl), trivial⟩ fun v45 => ⟨Gh.le_refl _, PickC.pick, ?_⟩)
      refine RH.ot rfl rfl (OT.append (v := q) (u := v45) (F := labelT) rfl El31 rfl (by decide) rfl rfl Rs.o (OneL.c (fun _ => rfl)) rfl (by first | omega | (simp <;> omega)) fun v46 => ⟨Gh.le_refl _, PickC.pick, ?_⟩)
      refine RH.pv rfl (fun _ _ _ _ h => h) (Gh.le_refl _) PickC.pick rfl (PV.asg (v := v46) rfl rfl) ?_
      refine RH.nil ?_
      refine WP.region ?_
      refine RG.pv rfl (PV.mvI (.inl rfl) rfl) ?_
      refine RG.pv rfl (PV.sub rfl rfl rfl (by first | omega | (simp only [List.length_cons, List.length_nil]; omega))) ?_
      refine RG.pv rfl (PV.mvI (.inr rfl) rfl) ?_
      refine RG.nil ?_
      exact ⟨rfl, j - 1, (ls ++ [⟨n2, p2, gd nm5 w41.toNat⟩]), v46, ⟨by omega, by simp; omega, hnm.app (nm5_ok hw41)⟩, ⟨rfl, rfl, trivial⟩, ⟨rfl, rfl, trivial⟩, Cv.p, by omega⟩
  · refine WP.exit ?_
    refine WP.seq ?_
    refine WP.seq ?_
    refine WP.region ?_
    refine RG.pv rfl (PV.move rfl rfl) ?_
    refine RG.callF (vs := [_, _]) rfl rfl En106 rfl (CallT.exC (src b cv) (next_s hcode (by omega) (fun w48 hw48 => ?_)))
    refine RG.pv rfl (PV.eql rfl rfl rfl) ?_
    refine RG.nil ?_
    refine WP.cond rfl (fun h3 => ?_) (fun h3 => ?_)
    · skip
      refine WP.region ?_
      refine RG.pv rfl (PV.move (v := q) rfl rfl) ?_
      refine RG.ot rfl (OT.bslice (F := strT) (els := [_, _, _]) rfl El45 rfl (by decide) rfl (by decide) ⟨rfl, (Cl.c rfl), ⟨rfl, (Cl.c rfl), ⟨rfl, (Cl.c rfl), trivial⟩⟩⟩ fun v51 => ?_)
      refine RG.pv rfl (PV.move rfl rfl) ?_
      refine RG.callF (vs := [_, _]) rfl rfl En106 rfl (CallT.exC (src b cv) (next_s hcode (by omega) (fun w53 hw53 => ?_)))
      refine RG.pv rfl (PV.idxS (j := w53.toNat) (v := v51) rfl Is45 rfl SlF.o rfl (by first | omega | (simp only [List.length_cons, List.length_nil]; omega)) (by first | omega | (simp only [List.length_cons, List.length_nil]; omega))) ?_
      refine RG.pv rfl (PV.loadE1 rfl Sc9 rfl rfl (El.o (getG (by first | omega | (simp only [List.length_cons, List.length_nil]; omega)))) rfl) ?_
      refine RG.pv rfl (PV.build (vs := [(2, [.string _])]) (out := [_, _, _, _]) rfl Zr51 Pl51 ⟨rfl, (Cl.c rfl), trivial⟩ rfl) ?_
      refine RG.ot rfl (OT.bslice (F := labelT) (els := [⟨0, ⟨0, 0⟩, gd nm3 w53.toNat⟩]) rfl El31 rfl (by decide) rfl (by decide) ⟨rfl, (Cl.c rfl), trivial⟩ fun v57 => ?_)
      refine RG.ot rfl (OT.append (v := q) (u := v57) (F := labelT) rfl El31 rfl (by decide) rfl rfl Rs.o (OneL.c (fun _ => rfl)) rfl (by first | omega | (simp <;> omega)) fun v58 => ?_)
      refine RG.pv rfl (PV.asg (v := v58) rfl rfl) ?_
      refine RG.nil ?_
      refine WP.seq ?_
      refine WP.region ?_
      refine RG.pv rfl (PV.move (v := v58) rfl rfl) ?_
      refine RG.pv rfl (PV.asg (v := v58) rfl rfl) ?_
      refine RG.nil ?_
      refine WP.ret ?_
      exact ⟨_, _, ResV.one rfl rfl, Cv.p, k v58 (ls ++ [⟨0, ⟨0, 0⟩, gd nm3 w53.toNat⟩]) (by simp; omega) (hnm.app (nm3_ok hw53))⟩
    · refine WP.skip ?_
      refine WP.seq ?_
      refine WP.region ?_
      refine RG.pv rfl (PV.move (v := q) rfl rfl) ?_
      refine RG.pv rfl (PV.asg (v := q) rfl rfl) ?_
      refine RG.nil ?_
      refine WP.ret ?_
      exact ⟨_, _, ResV.one rfl rfl, Cv.p, k q ls (by omega) hnm⟩
end Go.Proofs.YtmomfgfmnpblpaaGreat
namespace Go.Proofs.YtmomfgfmnpblpaaGreat
set_option linter.unusedVariables false
set_option linter.unusedSimpArgs false
open Go
set_option maxRecDepth 20000
set_option linter.unusedSimpArgs false
variable {G : Gh} {L : List Ch} {R : Value → Gh → List Ch → Prop}
theorem drawn_hd {e e' : TypeId} {v0 : Value} {xs ys : List (Sl Rect)} (h : ∀ s ∈ xs, s ∈ ys) : RsE G [osl e' slT v0 ys, bagS e rectT ys] rectT xs := fun _ hi => Rs.memB (h _ (gd_mem hi))
end Go.Proofs.YtmomfgfmnpblpaaGreat
namespace Go.Proofs.YtmomfgfmnpblpaaGreat
set_option linter.unusedVariables false
set_option linter.unusedSimpArgs false
open Go
set_option maxRecDepth 20000
set_option linter.unusedSimpArgs false
variable {G : Gh} {L : List Ch} {R : Value → Gh → List Ch → Prop}
def pA (f : Nat → Nat → Bool) (n : Nat) : Bool := (List.range n).any fun a => (List.range a).any fun b => f a b
theorem any_succ (g : Nat → Bool) (k : Nat) : (List.range (k + 1)).any g = ((List.range k).any g || g k) := by
  rw [List.range_succ, List.any_append]; simp
theorem pA_succ (f : Nat → Nat → Bool) (i : Nat) : pA f (i + 1) = (pA f i || (List.range i).any (f i)) := by
  rw [pA, any_succ]; rfl
theorem pA_iff (f : Nat → Nat → Bool) (n : Nat) : pA f n = true ↔ ∃ a, a < n ∧ ∃ b, b < a ∧ f a b = true := by
  simp [pA, List.any_eq_true]
theorem pA_oM {α β γ : Type} [DecidableEq α] [DecidableEq β] {κ : Nat → α} {ν : Nat → β} {ok : Nat → Bool} {f : Nat → Nat → Bool} {n : Nat} {zs : List γ} (hz : zs = [] ↔ oM κ ν ok n = [])
    (hf : ∀ a b, f a b = true ↔ ok a = true ∧ ok b = true ∧ κ a = κ b ∧ ν a ≠ ν b) : pA f n = decide ((zs.length : Int) > 0) := by
  rw [Bool.eq_iff_iff, decide_eq_true_eq, pA_iff]
  have h1 : ((zs.length : Int) > 0) ↔ oM κ ν ok n ≠ [] := by
    rw [Ne, ← hz, ← List.length_eq_zero_iff]; omega
  rw [h1, oM_iff]
  constructor
  · rintro ⟨a, ha, b, hb, h⟩; exact ⟨a, ha, b, hb, (hf a b).1 h⟩
  · rintro ⟨a, ha, b, hb, h⟩; exact ⟨a, ha, b, hb, (hf a b).2 h⟩
noncomputable def fS (ns : List Int) (ls : List Label) (a b : Nat) : Bool := (decide (gd ns a ≥ 0) && decide (gd ns a = gd ns b)) && !decide ((gd ls a).name = (gd ls b).name)
noncomputable def fO (ns : List Int) (ls : List Label) (a b : Nat) : Bool := ((decide (gd ns a ≥ 0) && decide (gd ns b ≥ 0)) && !decide (gd ns a = gd ns b)) && decide ((gd ls a).name = (gd ls b).name)
theorem fS_iff (ns : List Int) (ls : List Label) (a b : Nat) : fS ns ls a b = true ↔ okN ns a = true ∧ okN ns b = true ∧ keyN ns a = keyN ns b ∧ nameN ls a ≠ nameN ls b := by
  simp only [fS, okN, keyN, nameN, Bool.and_eq_true, decide_eq_true_eq, Bool.not_eq_true', decide_eq_false_iff_not]
  constructor
  · rintro ⟨⟨h1, h2⟩, h3⟩; exact ⟨by omega, by omega, h2, h3⟩
  · rintro ⟨h1, h2, h3, h4⟩; exact ⟨⟨by omega, h3⟩, h4⟩
theorem fO_iff (ns : List Int) (ls : List Label) (a b : Nat) : fO ns ls a b = true ↔ okN ns a = true ∧ okN ns b = true ∧ nameN ls a = nameN ls b ∧ keyN ns a ≠ keyN ns b := by
  simp only [fO, okN, keyN, nameN, Bool.and_eq_true, decide_eq_true_eq, Bool.not_eq_true', decide_eq_false_iff_not]
  constructor
  · rintro ⟨⟨⟨h1, h2⟩, h3⟩, h4⟩; exact ⟨by omega, by omega, h4, h3⟩
  · rintro ⟨h1, h2, h3, h4⟩; exact ⟨⟨⟨by omega, by omega⟩, h4⟩, h3⟩
theorem drawLabelNets_s {cv : Value} {bs : List UInt8} (hcode : SL G byteT cv bs) (k : ∀ v v0 xs ys u ls, Rs G [osl 56 slT v0 ys, bagS 61 rectT ys] slT v xs → (∀ s ∈ xs, s ∈ ys) → xs.length ≤ 8 → ls.length ≤ 6 → NmOk ls → R (.tuple #[v, u]) G (osl 51 labelT u ls :: osl 56 slT v0 ys :: bagS 61 rectT ys :: L)) : CallT Tryz.prog 23 #[cv] G L R := by
  refine CallT.enter (args := _) Tryz.func23 rfl rfl (by kernel_rfl) rfl ?_
  refine WP.seq ?_
  refine WP.region ?_
  refine RG.pv rfl (PV.asg rfl rfl) ?_
  refine RG.pv rfl (PV.asg rfl rfl) ?_
  refine RG.nil ?_
  refine WP.seq ?_
  refine WP.region ?_
  refine RG.pv rfl (PV.move (v := cv) rfl rfl) ?_
  refine RG.callF (vs := [cv]) rfl rfl En61 rfl (from_s hcode (fun b => ?_))
  refine RG.pv rfl (PV.asg rfl rfl) ?_
  refine RG.nil ?_
  refine WP.seq ?_
  refine WP.region ?_
  refine RG.pv rfl (PV.move rfl rfl) ?_
  refine RG.callF (vs := [_]) rfl rfl En62 rfl (CallT.exC (src b cv) (drawLayoutB_s hcode (fun v9 v0 xs ys hxs hmem hxl hys => ?_)))
  refine RG.pv rfl (PV.asg (v := v9) rfl rfl) ?_
  refine RG.nil ?_
  refine WP.seq ?_
  refine WP.region ?_
  refine RG.pv rfl (PV.move (v := v9) rfl rfl) ?_
  refine RG.pv rfl (PV.move rfl rfl) ?_
  refine RG.pv rfl (PV.move (v := v9) rfl rfl) ?_
  refine RG.callF (vs := [_, v9]) rfl rfl En63 rfl (CallT.exC (src b cv) (drawLabels_s hcode (Rs.up hxs) (fun i hi => Rs.up (drawn_hd (v0 := v0) (e := 61) (e' := 56) hmem i hi)) (fun i hi => hys _ (hmem _ (gd_mem hi))) (fun v13 lsv13 hllv13 hnmv13 => ?_)))
  refine RG.pv rfl (PV.asg (v := v9) rfl rfl) ?_
  refine RG.pv rfl (PV.asg (v := v13) rfl rfl) ?_
  refine RG.nil ?_
  refine WP.ret ?_
  exact ⟨_, _, ResV.two rfl rfl rfl, Cv.p, k v9 v0 xs ys v13 lsv13 hxs hmem hxl hllv13 hnmv13⟩
theorem law_FnLabelNets {cv : Value} {bs : List UInt8} (hcode : SL G byteT cv bs) (k : R (.bool true) G L) : CallT Tryz.prog 4 #[cv] G L R := by
  refine CallT.enter (args := _) Tryz.func4 rfl rfl (by kernel_rfl) rfl ?_
  refine WP.seq ?_
  refine WP.region ?_
  refine RG.pv rfl (PV.mvB (.inr rfl) rfl) ?_
  refine RG.nil ?_
  refine WP.seq ?_
  refine WP.seq ?_
  refine WP.region ?_
  refine RG.pv rfl (PV.move (v := cv) rfl rfl) ?_
  refine RG.callF (vs := [cv]) rfl rfl En22 rfl (big_s hcode ?_)
  refine RG.nil ?_
  refine WP.cond rfl (fun h1 => ?_) (fun h1 => ?_)
  · refine WP.seq ?_
    refine WP.region ?_
    refine RG.pv rfl (PV.mvB (.inr rfl) rfl) ?_
    refine RG.nil ?_
    refine WP.ret ?_
    exact ⟨_, _, ResV.one rfl rfl, Cv.p, k⟩
  · refine WP.skip ?_
    refine WP.seq ?_
    refine WP.region ?_
    refine RG.pv rfl (PV.move (v := cv) rfl rfl) ?_
    refine RG.callF (vs := [cv]) rfl rfl En23 rfl (drawLabelNets_s hcode (fun v17 v0 xs ys u17 ls hxs hmem hxl hll hnm => ?_))
    refine RG.pv rfl (PV.move (v := .tuple _) rfl rfl) ?_
    refine RG.pv rfl (PV.ext rfl rfl rfl) ?_
    refine RG.pv rfl (PV.ext (v := u17) rfl rfl rfl) ?_
    refine RG.pv rfl (PV.asg (v := v17) rfl rfl) ?_
    refine RG.pv rfl (PV.asg (v := u17) rfl rfl) ?_
    refine RG.nil ?_
    refine WP.seq ?_
    refine WP.region ?_
    refine RG.pv rfl (PV.move (v := v17) rfl rfl) ?_
    refine RG.pv rfl (PV.move (v := u17) rfl rfl) ?_
    refine RG.callF (vs := [v17, u17]) rfl rfl En14 rfl (labNets_i (Rs.up hxs) (drawn_hd (v0 := v0) (e := 61) (e' := 56) hmem).up Rs.o (fun i hi => Nat.le_trans (hnm _ (gd_mem hi)) (by decide)) (fun w23 => ?_))
    refine RG.pv rfl (PV.move (v := .tuple _) rfl rfl) ?_
    refine RG.pv rfl (PV.ext (v := w23) rfl rfl rfl) ?_
    refine RG.pv rfl (PV.ext rfl rfl rfl) ?_
    refine RG.pv rfl (PV.asg (v := w23) rfl rfl) ?_
    refine RG.pv rfl (PV.mvI (.inr rfl) rfl) ?_
    refine RG.nil ?_
    refine WP.seq ?_
    refine WP.region ?_
    refine RG.pv rfl (PV.move (v := v17) rfl rfl) ?_
    refine RG.pv rfl (PV.move (v := u17) rfl rfl) ?_
    refine RG.callF (vs := [v17, u17]) rfl rfl En24 rfl (shorted_i (Rs.up hxs) (drawn_hd (v0 := v0) (e := 61) (e' := 56) hmem).up Rs.o (fun i hi => Nat.le_trans (hnm _ (gd_mem hi)) (by decide)) (by omega) (fun v28 zsv28 hzv28 => ?_))
    refine RG.pv rfl (PV.move (v := v17) rfl rfl) ?_
    refine RG.pv rfl (PV.move (v := u17) rfl rfl) ?_
    refine RG.callF (vs := [v17, u17]) rfl rfl En25 rfl (opens_i (Rs.up hxs) (drawn_hd (v0 := v0) (e := 61) (e' := 56) hmem).up Rs.o (fun i hi => Nat.le_trans (hnm _ (gd_mem hi)) (by decide)) (by omega) (fun v31 zsv31 hzv31 => ?_))
    refine RG.pv rfl (PV.asg (v := v28) rfl rfl) ?_
    refine RG.pv rfl (PV.asg (v := v31) rfl rfl) ?_
    refine RG.nil ?_
    refine WP.seq ?_
    refine WP.seq ?_
    refine WP.region ?_
    refine RG.pv rfl (PV.mvI (.inl rfl) rfl) ?_
    refine RG.pv rfl (PV.neq rfl rfl rfl) ?_
    refine RG.nil ?_
    refine WP.cond rfl (fun h2 => ?_) (fun h2 => ?_)
    · have h2 : labC (er xs) ls ≠ 0 := by simpa using h2
      have e1 : labR (er xs) ls = [] := by rw [labR, if_neg h2]
      have e2 : zsv28 = [] := hzv28.2 (.inl h2)
      have e3 : zsv31 = [] := hzv31.2 (.inl h2)
      have e : ((decide (((labR (er xs) ls).length : Int) = 0) && decide ((zsv28.length : Int) = 0)) && decide ((zsv31.length : Int) = 0)) = true := by rw [e1, e2, e3]; rfl
      rw [← e] at k
      refine WP.seq ?_
      refine WP.region ?_
      refine RG.pv rfl (PV.move (v := w23) rfl rfl) ?_
      refine RG.pv rfl (PV.len (v := w23) rfl Tryz.underlying26 rfl SlF.o) ?_
      refine RG.pv rfl (PV.eql rfl rfl rfl) ?_
      refine RG.pv rfl (PV.mvB (.inl rfl) rfl) ?_
      refine RG.gs rfl rfl rfl (fun hp => (PV.move (v := v28) rfl rfl)) ?_
      refine RG.gs rfl rfl rfl (fun hp => (PV.len (v := v28) rfl Tryz.underlying26 (gs_t hp) SlF.o)) ?_
      refine RG.gs rfl rfl rfl (fun hp => (PV.eql rfl (gs_t hp) rfl)) ?_
      refine RG.pv rfl (PV.pickA rfl rfl (fun hq => gs_t (geqT hq)) rfl) ?_
      refine RG.pv rfl (PV.mvB (.inl rfl) rfl) ?_
      refine RG.gs rfl rfl rfl (fun hp => (PV.move (v := v31) rfl rfl)) ?_
      refine RG.gs rfl rfl rfl (fun hp => (PV.len (v := v31) rfl Tryz.underlying45 (gs_t hp) SlF.o)) ?_
      refine RG.gs rfl rfl rfl (fun hp => (PV.eql rfl (gs_t hp) rfl)) ?_
      refine RG.pv rfl (PV.pickA rfl rfl (fun hq => gs_t (geqT hq)) rfl) ?_
      refine RG.pv rfl (PV.mvB (.inr rfl) rfl) ?_
      refine RG.nil ?_
      refine WP.ret ?_
      exact ⟨_, _, ResV.one rfl rfl, Cv.p, k⟩
    · have h2 : labC (er xs) ls = 0 := by simpa using h2
      have hnl : (labR (er xs) ls).length = ls.length := by rw [labR, if_pos h2, List.length_map]
      refine WP.skip ?_
      refine WP.seq ?_
      refine WP.seq ?_
      refine WP.region ?_
      refine RG.pv rfl (PV.move (v := w23) rfl rfl) ?_
      refine RG.pv rfl (PV.len (v := w23) rfl Tryz.underlying26 rfl SlF.o) ?_
      refine RG.pv rfl (PV.move (v := u17) rfl rfl) ?_
      refine RG.pv rfl (PV.len (v := u17) rfl Tryz.underlying31 rfl SlF.o) ?_
      refine RG.pv rfl (PV.neq rfl rfl rfl) ?_
      refine RG.nil ?_
      refine WP.cond rfl (fun h3 => ?_) (fun h3 => ?_)
      · rw [hnl] at h3; simp at h3
      · refine WP.skip ?_
        refine WP.seq ?_
        refine WP.region ?_
        refine RG.pv rfl (PV.mvB (.inr rfl) rfl) ?_
        refine RG.pv rfl (PV.mvB (.inr rfl) rfl) ?_
        refine RG.nil ?_
        refine WP.seq ?_
        refine WP.seq ?_
        refine WP.region ?_
        refine RG.pv rfl (PV.mvI (.inr rfl) rfl) ?_
        refine RG.nil ?_
        refine WP.block ?_
        have hF : ∀ i, i < ls.length → gd (labR (er xs) ls) i = atN (er xs) (gd ls i).layer (gd ls i).at_.x (gd ls i).at_.y := fun i hi => by
          have hE : netE (er xs) = 0 := by
            cases hg : (!isLay (er xs) || !labelsOk ls) with
            | true => rw [labC_bad hg] at h2; cases h2
            | false => rw [← (labC_good hg).1]; exact h2
          rw [labR, if_pos h2, gd_map _ hi, atN, if_pos hE]; rfl
        have hS : pA (fS (labR (er xs) ls) ls) ls.length = decide ((zsv28.length : Int) > 0) := pA_oM (hzv28.trans ⟨fun h => h.resolve_left (fun c => c h2), .inr⟩) (fS_iff _ _)
        have hO : pA (fO (labR (er xs) ls) ls) ls.length = decide ((zsv31.length : Int) > 0) := pA_oM (hzv31.trans ⟨fun h => h.resolve_left (fun c => c h2), .inr⟩) (fO_iff _ _)
        refine WP.loop3 [3, 4, 5, 7, 8] (fun (i : Nat) (s o : Bool) => i ≤ ls.length ∧ s = pA (fS (labR (er xs) ls) ls) i ∧ o = pA (fO (labR (er xs) ls) ls) i) (fun (i : Nat) (s o : Bool) => [(11, vi i), (9, .bool s), (10, .bool o)]) (fun (i : Nat) (s o : Bool) => osl 9 strT v31 zsv31 :: osl 2 intT v28 zsv28 :: osl 2 intT w23 (labR (er xs) ls) :: osl 51 labelT u17 ls :: osl 56 slT v0 ys :: bagS 61 rectT ys :: L) (fun (i : Nat) (s o : Bool) => ls.length - i) 0 false false ⟨by omega, rfl, rfl⟩ ⟨rfl, rfl, rfl, trivial⟩ Cv.p ?_
        rintro i s o τ ⟨hi, hs, ho⟩
        refine WP.seq ?_
        refine WP.seq ?_
        refine WP.region ?_
        refine RG.pv rfl (PV.mvI (.inl rfl) rfl) ?_
        refine RG.pv rfl (PV.move (v := u17) rfl rfl) ?_
        refine RG.pv rfl (PV.len (v := u17) rfl Tryz.underlying31 rfl SlF.o) ?_
        refine RG.pv rfl (PV.lss rfl rfl rfl) ?_
        refine RG.nil ?_
        refine WP.cond rfl (fun h4 => ?_) (fun h4 => ?_)
        · have h4 := of_decide_eq_true h4
          have h40 : i < ls.length := by omega
          refine WP.skip ?_
          refine WP.seq ?_
          refine WP.block ?_
          refine WP.seq ?_
          refine WP.seq ?_
          refine WP.regionQ (by kernel_rfl) (by kernel_rfl) ?_
          refine RQ.pv rfl (PV.move (v := w23) rfl rfl) ?_
          refine RQ.pv rfl (PV.mvI (.inl rfl) rfl) ?_
          refine RQ.pv rfl (PV.idxS (v := w23) rfl Is26 rfl SlF.o rfl rfl (by omega)) ?_
          refine RQ.pv rfl (PV.loadE1 rfl Sc2 rfl rfl (El.o (getG (by omega))) rfl) ?_
          refine RQ.pv rfl (PV.move (v := v17) rfl rfl) ?_
          refine RQ.pv rfl (PV.move (v := u17) rfl rfl) ?_
          refine RQ.pv rfl (PV.mvI (.inl rfl) rfl) ?_
          refine RQ.pv rfl (PV.idxS (v := u17) rfl Is31 rfl SlF.o rfl rfl (by omega)) ?_
          refine RQ.pv rfl (PV.field rfl Fo51_0 rfl) ?_
          refine RQ.pv rfl (PV.loadF (v := u17) (j := 0) rfl Sc2 rfl rfl (El.o (getG (by omega))) rfl) ?_
          refine RQ.pv rfl (PV.move (v := u17) rfl rfl) ?_
          refine RQ.pv rfl (PV.mvI (.inl rfl) rfl) ?_
          refine RQ.pv rfl (PV.idxS (v := u17) rfl Is31 rfl SlF.o rfl rfl (by omega)) ?_
          refine RQ.pv rfl (PV.field rfl Fo51_1 rfl) ?_
          refine RQ.pv rfl (PV.loadEP rfl Ag49 rfl rfl (El.o (getG (by omega))) rfl) ?_
          refine RQ.callF (vs := [v17, _, _]) rfl rfl En26 rfl (netAt_i (q := (gd ls i).at_) (Rs.up hxs) (drawn_hd (v0 := v0) (e := 61) (e' := 56) hmem).up ⟨rfl, rfl, rfl⟩) ?_
          refine RQ.pv rfl (PV.neq rfl rfl rfl) ?_
          refine RQ.nil ?_
          refine WP.cond rfl (fun h5 => ?_) (fun h5 => ?_)
          · rw [hF i h40] at h5; simp at h5
          · refine WP.skip ?_
            refine WP.seq ?_
            refine WP.region ?_
            refine RG.pv rfl (PV.mvI (.inr rfl) rfl) ?_
            refine RG.nil ?_
            refine WP.block ?_
            refine WP.loop3 [3, 4, 5, 7, 8, 11] (fun (m : Nat) (s2 o2 : Bool) => m ≤ i ∧ s2 = (s || (List.range m).any (fS (labR (er xs) ls) ls i)) ∧ o2 = (o || (List.range m).any (fO (labR (er xs) ls) ls i))) (fun (m : Nat) (s2 o2 : Bool) => [(12, vi m), (9, .bool s2), (10, .bool o2)]) (fun (m : Nat) (s2 o2 : Bool) => osl 9 strT v31 zsv31 :: osl 2 intT v28 zsv28 :: osl 2 intT w23 (labR (er xs) ls) :: osl 51 labelT u17 ls :: osl 56 slT v0 ys :: bagS 61 rectT ys :: L) (fun (m : Nat) (s2 o2 : Bool) => i - m) 0 s o ⟨by omega, by simp, by simp⟩ ⟨rfl, rfl, rfl, trivial⟩ Cv.p ?_
            rintro m s2 o2 τ1 ⟨hm, hs2, ho2⟩
            refine WP.seq ?_
            refine WP.seq ?_
            refine WP.region ?_
            refine RG.pv rfl (PV.mvI (.inl rfl) rfl) ?_
            refine RG.pv rfl (PV.mvI (.inl rfl) rfl) ?_
            refine RG.pv rfl (PV.lss rfl rfl rfl) ?_
            refine RG.nil ?_
            refine WP.cond rfl (fun h6 => ?_) (fun h6 => ?_)
            · have h6 := of_decide_eq_true h6
              have h60 : m < i := by omega
              refine WP.skip ?_
              refine WP.seq ?_
              refine WP.block ?_
              refine WP.seq ?_
              refine WP.regionQ (by kernel_rfl) (by kernel_rfl) ?_
              refine RQ.pv rfl (PV.mvB (.inl rfl) rfl) ?_
              refine RQ.pv rfl (PV.mvB (.inl rfl) rfl) ?_
              refine RQ.gs rfl rfl rfl (fun hp => (PV.move (v := w23) rfl rfl)) ?_
              refine RQ.gs rfl rfl rfl (fun hp => (PV.mvI (.inl rfl) rfl)) ?_
              refine RQ.gs rfl rfl rfl (fun hp => (PV.idxS (v := w23) rfl Is26 (gs_t hp) SlF.o (gs_t hp) rfl (by first | omega | (simp at hp; omega)))) ?_
              refine RQ.gs rfl rfl rfl (fun hp => (PV.loadE1 rfl Sc2 (gs_t hp) rfl (El.o (getG (by first | omega | (simp at hp; omega)))) rfl)) ?_
              refine RQ.gs rfl rfl rfl (fun hp => (PV.geq rfl (gs_t hp) rfl)) ?_
              refine RQ.gs rfl rfl rfl (fun hp => (PV.mvB (.inl rfl) (gs_t hp))) ?_
              refine RQ.gs2 rfl rfl rfl (fun hp => (PV.move (v := w23) rfl rfl)) ?_
              refine RQ.gs2 rfl rfl rfl (fun hp => (PV.mvI (.inl rfl) rfl)) ?_
              refine RQ.gs2 rfl rfl rfl (fun hp => (PV.idxS (v := w23) rfl Is26 (gs_t hp) SlF.o (gs_t hp) rfl (by first | omega | (simp at hp; omega)))) ?_
              refine RQ.gs2 rfl rfl rfl (fun hp => (PV.loadE1 rfl Sc2 (gs_t hp) rfl (El.o (getG (by first | omega | (simp at hp; omega)))) rfl)) ?_
              refine RQ.gs2 rfl rfl rfl (fun hp => (PV.move (v := w23) rfl rfl)) ?_
              refine RQ.gs2 rfl rfl rfl (fun hp => (PV.mvI (.inl rfl) rfl)) ?_
              refine RQ.gs2 rfl rfl rfl (fun hp => (PV.idxS (v := w23) rfl Is26 (gs_t hp) SlF.o (gs_t hp) rfl (by first | omega | (simp at hp; omega)))) ?_
              refine RQ.gs2 rfl rfl rfl (fun hp => (PV.loadE1 rfl Sc2 (gs_t hp) rfl (El.o (getG (by first | omega | (simp at hp; omega)))) rfl)) ?_
              refine RQ.gs2 rfl rfl rfl (fun hp => (PV.eql rfl (gs_t hp) (gs_t hp))) ?_
              refine RQ.gs rfl rfl rfl (fun hp => (PV.pickA rfl (gs_t hp) (fun hq => gs_t (gandT hp hq)) rfl)) ?_
              refine RQ.gs rfl rfl rfl (fun hp => (PV.mvB (.inl rfl) (gs_t hp))) ?_
              refine RQ.gs2 rfl rfl rfl (fun hp => (PV.move (v := u17) rfl rfl)) ?_
              refine RQ.gs2 rfl rfl rfl (fun hp => (PV.mvI (.inl rfl) rfl)) ?_
              refine RQ.gs2 rfl rfl rfl (fun hp => (PV.idxS (v := u17) rfl Is31 (gs_t hp) SlF.o (gs_t hp) rfl (by first | omega | (simp at hp; omega)))) ?_
              refine RQ.gs2 rfl rfl rfl (fun hp => (PV.field rfl Fo51_2 (gs_t hp))) ?_
              refine RQ.gs2 rfl rfl rfl (fun hp => (PV.loadF rfl Sc9 (gs_t hp) rfl (El.o (getG (by first | omega | (simp at hp; omega)))) rfl)) ?_
              refine RQ.gs2 rfl rfl rfl (fun hp => (PV.move (v := u17) rfl rfl)) ?_
              refine RQ.gs2 rfl rfl rfl (fun hp => (PV.mvI (.inl rfl) rfl)) ?_
              refine RQ.gs2 rfl rfl rfl (fun hp => (PV.idxS (v := u17) rfl Is31 (gs_t hp) SlF.o (gs_t hp) rfl (by first | omega | (simp at hp; omega)))) ?_
              refine RQ.gs2 rfl rfl rfl (fun hp => (PV.field rfl Fo51_2 (gs_t hp))) ?_
              refine RQ.gs2 rfl rfl rfl (fun hp => (PV.loadF rfl Sc9 (gs_t hp) rfl (El.o (getG (by first | omega | (simp at hp; omega)))) rfl)) ?_
              refine RQ.gs2 rfl rfl rfl (fun hp => (PV.neqS rfl (gs_t hp) (gs_t hp))) ?_
              refine RQ.gs rfl rfl rfl (fun hp => (PV.pickA rfl (gs_t hp) (fun hq => gs_t (gandT hp hq)) rfl)) ?_
              refine RQ.pv rfl (PV.pickO rfl rfl rfl (fun hq => gs_t (geqF hq))) ?_
              refine RQ.pv rfl (PV.mvB (.inr rfl) rfl) ?_
              refine RQ.nil ?_
              refine WP.regionQ (by kernel_rfl) (by kernel_rfl) ?_
              refine RQ.pv rfl (PV.mvB (.inl rfl) rfl) ?_
              refine RQ.pv rfl (PV.mvB (.inl rfl) rfl) ?_
              refine RQ.gs rfl rfl rfl (fun hp => (PV.move (v := w23) rfl rfl)) ?_
              refine RQ.gs rfl rfl rfl (fun hp => (PV.mvI (.inl rfl) rfl)) ?_
              refine RQ.gs rfl rfl rfl (fun hp => (PV.idxS (v := w23) rfl Is26 (gs_t hp) SlF.o (gs_t hp) rfl (by first | omega | (simp at hp; omega)))) ?_
              refine RQ.gs rfl rfl rfl (fun hp => (PV.loadE1 rfl Sc2 (gs_t hp) rfl (El.o (getG (by first | omega | (simp at hp; omega)))) rfl)) ?_
              refine RQ.gs rfl rfl rfl (fun hp => (PV.geq rfl (gs_t hp) rfl)) ?_
              refine RQ.gs rfl rfl rfl (fun hp => (PV.mvB (.inl rfl) (gs_t hp))) ?_
              refine RQ.gs2 rfl rfl rfl (fun hp => (PV.move (v := w23) rfl rfl)) ?_
              refine RQ.gs2 rfl rfl rfl (fun hp => (PV.mvI (.inl rfl) rfl)) ?_
              refine RQ.gs2 rfl rfl rfl (fun hp => (PV.idxS (v := w23) rfl Is26 (gs_t hp) SlF.o (gs_t hp) rfl (by first | omega | (simp at hp; omega)))) ?_
              refine RQ.gs2 rfl rfl rfl (fun hp => (PV.loadE1 rfl Sc2 (gs_t hp) rfl (El.o (getG (by first | omega | (simp at hp; omega)))) rfl)) ?_
              refine RQ.gs2 rfl rfl rfl (fun hp => (PV.geq rfl (gs_t hp) rfl)) ?_
              refine RQ.gs rfl rfl rfl (fun hp => (PV.pickA rfl (gs_t hp) (fun hq => gs_t (gandT hp hq)) rfl)) ?_
              refine RQ.gs rfl rfl rfl (fun hp => (PV.mvB (.inl rfl) (gs_t hp))) ?_
              refine RQ.gs2 rfl rfl rfl (fun hp => (PV.move (v := w23) rfl rfl)) ?_
              refine RQ.gs2 rfl rfl rfl (fun hp => (PV.mvI (.inl rfl) rfl)) ?_
              refine RQ.gs2 rfl rfl rfl (fun hp => (PV.idxS (v := w23) rfl Is26 (gs_t hp) SlF.o (gs_t hp) rfl (by first | omega | (simp at hp; omega)))) ?_
              refine RQ.gs2 rfl rfl rfl (fun hp => (PV.loadE1 rfl Sc2 (gs_t hp) rfl (El.o (getG (by first | omega | (simp at hp; omega)))) rfl)) ?_
              refine RQ.gs2 rfl rfl rfl (fun hp => (PV.move (v := w23) rfl rfl)) ?_
              refine RQ.gs2 rfl rfl rfl (fun hp => (PV.mvI (.inl rfl) rfl)) ?_
              refine RQ.gs2 rfl rfl rfl (fun hp => (PV.idxS (v := w23) rfl Is26 (gs_t hp) SlF.o (gs_t hp) rfl (by first | omega | (simp at hp; omega)))) ?_
              refine RQ.gs2 rfl rfl rfl (fun hp => (PV.loadE1 rfl Sc2 (gs_t hp) rfl (El.o (getG (by first | omega | (simp at hp; omega)))) rfl)) ?_
              refine RQ.gs2 rfl rfl rfl (fun hp => (PV.neq rfl (gs_t hp) (gs_t hp))) ?_
              refine RQ.gs rfl rfl rfl (fun hp => (PV.pickA rfl (gs_t hp) (fun hq => gs_t (gandT hp hq)) rfl)) ?_
              refine RQ.gs rfl rfl rfl (fun hp => (PV.mvB (.inl rfl) (gs_t hp))) ?_
              refine RQ.gs2 rfl rfl rfl (fun hp => (PV.move (v := u17) rfl rfl)) ?_
              refine RQ.gs2 rfl rfl rfl (fun hp => (PV.mvI (.inl rfl) rfl)) ?_
              refine RQ.gs2 rfl rfl rfl (fun hp => (PV.idxS (v := u17) rfl Is31 (gs_t hp) SlF.o (gs_t hp) rfl (by first | omega | (simp at hp; omega)))) ?_
              refine RQ.gs2 rfl rfl rfl (fun hp => (PV.field rfl Fo51_2 (gs_t hp))) ?_
              refine RQ.gs2 rfl rfl rfl (fun hp => (PV.loadF rfl Sc9 (gs_t hp) rfl (El.o (getG (by first | omega | (simp at hp; omega)))) rfl)) ?_
              refine RQ.gs2 rfl rfl rfl (fun hp => (PV.move (v := u17) rfl rfl)) ?_
              refine RQ.gs2 rfl rfl rfl (fun hp => (PV.mvI (.inl rfl) rfl)) ?_
              refine RQ.gs2 rfl rfl rfl (fun hp => (PV.idxS (v := u17) rfl Is31 (gs_t hp) SlF.o (gs_t hp) rfl (by first | omega | (simp at hp; omega)))) ?_
              refine RQ.gs2 rfl rfl rfl (fun hp => (PV.field rfl Fo51_2 (gs_t hp))) ?_
              refine RQ.gs2 rfl rfl rfl (fun hp => (PV.loadF rfl Sc9 (gs_t hp) rfl (El.o (getG (by first | omega | (simp at hp; omega)))) rfl)) ?_
              refine RQ.gs2 rfl rfl rfl (fun hp => (PV.eqlS rfl (gs_t hp) (gs_t hp))) ?_
              refine RQ.gs rfl rfl rfl (fun hp => (PV.pickA rfl (gs_t hp) (fun hq => gs_t (gandT hp hq)) rfl)) ?_
              refine RQ.pv rfl (PV.pickO rfl rfl rfl (fun hq => gs_t (geqF hq))) ?_
              refine RQ.pv rfl (PV.mvB (.inr rfl) rfl) ?_
              refine RQ.nil ?_
              refine WP.region ?_
              refine RG.pv rfl (PV.mvI (.inl rfl) rfl) ?_
              refine RG.pv rfl (PV.add rfl rfl rfl (by omega)) ?_
              refine RG.pv rfl (PV.mvI (.inr rfl) rfl) ?_
              refine RG.nil ?_
              exact ⟨rfl, m + 1, _, _, ⟨by omega, by rw [any_succ, ← Bool.or_assoc, ← hs2]; rfl, by rw [any_succ, ← Bool.or_assoc, ← ho2]; rfl⟩, ⟨rfl, rfl, rfl, trivial⟩, ⟨rfl, rfl, rfl, rfl, rfl, rfl, trivial⟩, Cv.p, by omega⟩
            · have h6 := of_decide_eq_false h6
              obtain rfl : m = i := by omega
              refine WP.exit ?_
              refine WP.region ?_
              refine RG.pv rfl (PV.mvI (.inl rfl) rfl) ?_
              refine RG.pv rfl (PV.add rfl rfl rfl (by omega)) ?_
              refine RG.pv rfl (PV.mvI (.inr rfl) rfl) ?_
              refine RG.nil ?_
              exact ⟨rfl, m + 1, s2, o2, ⟨by omega, by rw [hs2, hs, pA_succ], by rw [ho2, ho, pA_succ]⟩, ⟨rfl, rfl, rfl, trivial⟩, ⟨rfl, rfl, rfl, rfl, rfl, trivial⟩, Cv.p, by omega⟩
        · have h4 := of_decide_eq_false h4
          obtain rfl : i = ls.length := by omega
          have e : ((s == decide ((zsv28.length : Int) > 0)) && (o == decide ((zsv31.length : Int) > 0))) = true := by rw [hs, ho, hS, hO]; simp
          rw [← e] at k
          refine WP.exit ?_
          refine WP.seq ?_
          refine WP.region ?_
          refine RG.pv rfl (PV.mvB (.inl rfl) rfl) ?_
          refine RG.pv rfl (PV.move (v := v28) rfl rfl) ?_
          refine RG.pv rfl (PV.len (v := v28) rfl Tryz.underlying26 rfl SlF.o) ?_
          refine RG.pv rfl (PV.gtr rfl rfl rfl) ?_
          refine RG.pv rfl (PV.eqlB rfl Tryz.underlying4 rfl rfl) ?_
          refine RG.pv rfl (PV.mvB (.inl rfl) rfl) ?_
          refine RG.gs rfl rfl rfl (fun hp => (PV.mvB (.inl rfl) rfl)) ?_
          refine RG.gs rfl rfl rfl (fun hp => (PV.move (v := v31) rfl rfl)) ?_
          refine RG.gs rfl rfl rfl (fun hp => (PV.len (v := v31) rfl Tryz.underlying45 (gs_t hp) SlF.o)) ?_
          refine RG.gs rfl rfl rfl (fun hp => (PV.gtr rfl (gs_t hp) rfl)) ?_
          refine RG.gs rfl rfl rfl (fun hp => (PV.eqlB rfl Tryz.underlying4 (gs_t hp) (gs_t hp))) ?_
          refine RG.pv rfl (PV.pickA rfl rfl (fun hq => gs_t (geqT hq)) rfl) ?_
          refine RG.pv rfl (PV.mvB (.inr rfl) rfl) ?_
          refine RG.nil ?_
          refine WP.ret ?_
          exact ⟨_, _, ResV.one rfl rfl, Cv.p, k⟩
end Go.Proofs.YtmomfgfmnpblpaaGreat
namespace Go.Proofs.YtmomfgfmnpblpaaGreat
set_option linter.unusedVariables false
set_option linter.unusedSimpArgs false
open Go Go.ChangeShapes Go.WideShapes Go.ChangeAt Go.RowKit Go.Deep
set_option linter.unusedVariables false
def Gw (w : World) : Gh := ⟨wh w, w.os, w.tape, w.output⟩
theorem St.start (w : World) : St (Gw w) [] w := ⟨fun _ => none, trivial, Hp.le_refl _, (fun _ _ h => by cases h), fun _ => .inl rfl, rfl, rfl, rfl⟩
/-- behind a call that began in W, all of W's blocks are as they were -/
theorem St.below {W w' : World} {G : Gh} {L : List Ch} (l : Gh.le (Gw W) G) (h : St G L w') : Below W.heap.size W w' := by
  obtain ⟨hp, s, l1, l2, d, ok⟩ := h
  have ok' := Gh.le_ok l ok
  have up := Hp.le_trans l.1 l1
  have key : ∀ k, k < W.heap.size → w'.heap[k]? = W.heap[k]? := fun k hk => by
    have : (Gw W).f k = some W.heap[k] := by simp [Gw, wh, hk]
    have h2 := up k _ this
    simp only [wh] at h2
    rw [h2]; simp [hk]
  refine ⟨ok'.1, ok'.2.1, ok'.2.2, ?_, key⟩
  by_cases h0 : W.heap.size = 0
  · omega
  · have := key (W.heap.size - 1) (by omega)
    rw [Array.getElem?_eq_getElem (by omega : W.heap.size - 1 < W.heap.size)] at this
    have := (Array.getElem?_eq_some_iff.1 this).1
    omega
def Opn {ρ : Type} (P : Program) (t : TypeId) (F : FT ρ) (ok : Gh → ρ → Prop) : Prop :=
  ∀ {H : Type} {enc : TypeId × Value → H} {w : World} {fuel : Nat} {cs : List Value} {x : DataW H × List MemPlace}, DataW.trod enc P w 0 (fun _ => true) true fuel t cs = some x → ∃ a : ρ, cs = F.enc a ∧ ok (Gw w) a
def okL {ρ : Type} [Inhabited ρ] (F : FT ρ) (ok : Gh → ρ → Prop) (G : Gh) (v : Value) : Prop := ∃ xs : List ρ, SL G F v xs ∧ ∀ i, i < xs.length → ok G (gd xs i)
section
variable {P : Program} {t e : TypeId}
theorem cells_get {w : World} {a : Addr} {n : Nat} {cs : List Value} (h : w.cells? 0 a n = some cs) : cs.length = n ∧ ∀ j c, cs[j]? = some c → w.cell? (a.add j) = some c := by
  obtain ⟨_, h1, h2⟩ := World.cells?_some h
  refine ⟨h1, fun j c hc => ?_⟩
  have hj := (List.getElem?_eq_some_iff.1 hc).1
  rw [h2 j (by omega), hc]
theorem opnL {ρ : Type} [Inhabited ρ] {F : FT ρ} {ok : Gh → ρ → Prop} (ht : P.underlying t = some (.slice e)) (hE : Opn P e F ok) (hc : P.cellsOf e = F.sz) (h0 : 0 < F.sz) : Opn P t rawT (okL F ok) := fun {H enc w fuel cs x} h => by
  rcases open_slice ht h with ⟨rfl, _⟩ | ⟨a, len, cap, m, n, D, Pl, rfl, _, hl, hm, hmm, _, hel⟩
  · exact ⟨_, rfl, [], ⟨⟨0, Nat.le_refl _, Nat.zero_le _, .inr ⟨⟨_, rfl⟩, rfl⟩⟩, fun j c hj => by simp [FT.flat] at hj⟩, fun i hi => by simp at hi⟩
  have hmcap : m = cap := by simpa using hmm
  refine ⟨.slice (some a) len cap, rfl, ?_⟩
  have hall : ∀ i, i < len → ∃ r : ρ, w.cells? 0 (a.add (i * F.sz)) F.sz = some (F.enc r) ∧ ok (Gw w) r := fun i hi => by
    obtain ⟨cs', h1, h2⟩ := hel i (by omega)
    obtain ⟨r, rfl, hr⟩ := hE h2
    rw [hc] at h1
    exact ⟨r, h1, hr⟩
  have : ∃ f : Nat → ρ, ∀ i, i < len → w.cells? 0 (a.add (i * F.sz)) F.sz = some (F.enc (f i)) ∧ ok (Gw w) (f i) := choose_lt hall
  obtain ⟨f, hf⟩ := this
  have hlen : ((List.range len).map f).length = len := by simp
  have hget : ∀ i, i < len → ((List.range len).map f)[i]? = some (f i) := fun i hi => by simp [hi]
  have hsp : len ≠ 0 → a.spot = none := fun hz => by
    obtain ⟨h1, _⟩ := hf 0 (by omega)
    obtain ⟨hl1, hg⟩ := cells_get h1
    cases hq : (F.enc (f 0))[0]? with
    | none => rw [List.getElem?_eq_none_iff] at hq; omega
    | some c =>
      have hcell := hg 0 c hq
      cases hs : a.spot with
      | none => rfl
      | some s =>
        exfalso
        have h3 : ((a.add (0 * F.sz)).add 0).spot.isSome = true := by simp [Addr.add, hs]
        unfold World.cell? at hcell
        split at hcell
        · rw [if_pos h3] at hcell; cases hcell
        · cases hcell
  refine ⟨(List.range len).map f, ⟨⟨cap, by simpa using hl, hm, ?_⟩, ?_⟩, fun i hi => ?_⟩
  · by_cases hz : len = 0
    · exact .inr ⟨⟨some a, by simp⟩, by simpa using hz⟩
    · refine .inl ⟨a.block, a.off, ?_⟩
      have hsp := hsp hz
      simp only [hlen]
      obtain ⟨ab, ao, az⟩ := a
      simp only at hsp
      subst hsp; rfl
  · intro j c hj
    by_cases hz : len = 0
    · subst hz; simp [FT.flat] at hj
    have hsp := hsp hz
    have hjl : j < len * F.sz := by
      have := (List.getElem?_eq_some_iff.1 hj).1
      rwa [FT.flat_len, hlen] at this
    have hq : j / F.sz < len := (Nat.div_lt_iff_lt_mul h0).2 hjl
    have hr : j % F.sz < F.sz := Nat.mod_lt _ h0
    have hjd : j / F.sz * F.sz + j % F.sz = j := by rw [Nat.mul_comm]; exact Nat.div_add_mod j F.sz
    obtain ⟨h1, _⟩ := hf (j / F.sz) hq
    obtain ⟨_, hg⟩ := cells_get h1
    have hc' : (F.enc (f (j / F.sz)))[j % F.sz]? = some ((F.enc (f (j / F.sz)))[j % F.sz]'(by rw [F.len]; exact hr)) := List.getElem?_eq_getElem _
    have hfl := F.flat_get (hget _ hq) hc'
    rw [hjd, hj] at hfl
    have hcell := hg _ _ hc'
    obtain ⟨ab, ao, az⟩ := a
    simp only at hsp
    subst hsp
    rw [add_none, add_none, cell_hc, Nat.add_assoc, hjd] at hcell
    simp only [sb, so, Gw]
    rw [hcell]; exact hfl.symm
  · have hi' : i < len := by simpa using hi
    have : gd ((List.range len).map f) i = f i := by simp [gd, hi']
    rw [this]; exact (hf i hi').2
end
def okSl {ρ : Type} [Inhabited ρ] (F : FT ρ) (ok : Gh → ρ → Prop) (G : Gh) (s : Sl ρ) : Prop := SL G F s.v s.xs ∧ ∀ i, i < s.xs.length → ok G (gd s.xs i)
theorem opnSl {P : Program} {t e : TypeId} {ρ : Type} [Inhabited ρ] {F : FT ρ} {ok : Gh → ρ → Prop} (ht : P.underlying t = some (.slice e)) (hE : Opn P e F ok) (hc : P.cellsOf e = F.sz) (h0 : 0 < F.sz) : Opn P t slT (okSl F ok) := fun h => by
  obtain ⟨v, rfl, xs, h1, h2⟩ := opnL ht hE hc h0 h
  exact ⟨⟨v, xs⟩, rfl, h1, h2⟩
section
variable {P : Program} {t e : TypeId} {H : Type} {enc : TypeId × Value → H} {W : World} {r : Reach} {base : Nat} {v : Value} {d : DataW H} {ps : List MemPlace}
theorem argSl {ρ : Type} {ok : Gh → Sl ρ → Prop} (ht : P.underlying t = some (.slice e)) (hO : Opn P t slT ok) (hv : Value.okWide P W r base t v) (h : DataW.Trod enc P W 0 (fun _ => true) true t v d ps) : ∃ s : Sl ρ, v = s.v ∧ ok (Gw W) s := by
  obtain ⟨a, n, c, rfl⟩ := okWide_slice ht hv
  obtain ⟨fuel, hf⟩ := h
  obtain ⟨m, e1, hm⟩ := hO hf
  simp [Value.cells, slT] at e1
  exact ⟨m, e1, hm⟩
theorem trodAll_stays (hl : laidOutB P = true) {W' : World} (hb : Below W.heap.size W W') : ∀ {ts : List TypeId} {vs : List Value} {ds : List (DataW H)} {ps : List MemPlace}, (∀ t ∈ ts, P.readableRec t = true ∧ t < P.types.size) → (∀ x ∈ ps, x.block < W.heap.size) →
    DataW.TrodAll enc P W 0 (fun _ => true) true ts vs ds ps → DataW.TrodAll enc P W' 0 (fun b => decide (b < W.heap.size)) true ts vs ds ps
  | [], [], [], _, _, _, h => h
  | t :: ts, v :: vs, d :: ds, ps, hr, hlt, h => by
    obtain ⟨p, q, h1, h2, rfl⟩ := h
    have := hr t (.head _)
    exact ⟨p, q, Below.trod hl this.1 this.2 h1 hb (fun x hx => hlt x (List.mem_append_left _ hx)), trodAll_stays hl hb (fun t ht => hr t (.tail _ ht)) (fun x hx => hlt x (List.mem_append_right _ hx)) h2, rfl⟩
end
def recsB (P : Program) (ts : List TypeId) : Bool := ts.all fun t => P.readableRec t && Nat.blt t P.types.size
theorem recs_of {P : Program} {ts : List TypeId} (h : recsB P ts = true) : ∀ t ∈ ts, P.readableRec t = true ∧ t < P.types.size := by
  intro t ht
  have := List.all_eq_true.1 h t ht
  simp only [Bool.and_eq_true] at this
  exact ⟨this.1, Nat.le_of_ble_eq_true this.2⟩
/-- A LAW, LIFTED: the call returns true, the arguments read as they did. -/
theorem law_lifted {H : Type} {enc : TypeId × Value → H} {C : Checked} {os : Os} {f : FuncId} {fn : Func} {s : ChangeSpec} {tb : TypeId} (own : ownKnob C.prog.godebug = none) (started : os.Started) (noInit : C.prog.inits.idxOf? f = none) (hfn : C.prog.funcs[f]? = some fn) (hl : laidOutB C.prog = true)
    (hvars : s.vars = []) (hr : recsB C.prog fn.params.toList = true) (hres : fn.resultTypes = #[tb]) (htb : C.prog.underlying tb = some .bool)
    (hsp : ∀ ds : List (DataW H), ds.length = fn.params.toList.length → s.fn H ds = { results := [.lit (.bool true)], args := ds })
    (witness : ∃ (w : World) (tape : Tape) (i : Input), w.os = os ∧ (w.forCall tape i).Shaped C.prog ∧ i.vars = [] ∧ Input.okWide C.prog (w.forCall tape i) .any w.heap.size f i ∧
      s.pre6 enc C.prog fn [] false (w.forCall tape i).memory i.args ∧ ({} : Assume).holds C.prog (lone (Frame.enter C.prog f i.args .normal) [] (w.forCall tape i)))
    (walk : ∀ (W : World) (base : Nat) (args : Array Value) (ds : List (DataW H)) (ps : List MemPlace), (∀ (j : Nat) t v, fn.params[j]? = some t → args[j]? = some v → Value.okWide C.prog W .any base t v) →
      DataW.TrodAll enc C.prog W 0 (fun _ => true) true fn.params.toList args.toList ds ps → CallT C.prog f args (Gw W) [] fun v G _ => v = .bool true ∧ Gh.le (Gw W) G) :
    ReturnsInHanded {} C os f .any (s.pre6 enc C.prog fn [] false) (s.post enc C.prog fn false true false false) := by
  refine returnsInHanded_of_change own started noInit hfn witness ?_
  intro W base args ds gs before hval hW _ _
  have hW' := hW
  obtain ⟨p, q, hA, hV, rfl, hfz, hnd⟩ := hW
  rw [hvars] at hV
  obtain ⟨rfl, rfl⟩ := trodVars_none hV
  refine ((walk W base args ds p hval hA).run (St.start W)).mono ?_
  rintro e W' ⟨v, G, L, rfl, hs, rfl, hG⟩
  have hb := hs.below hG
  have hlt : ∀ x ∈ p, x.block < W.heap.size := fun x hx => hW'.lt x (List.mem_append_left _ hx)
  have hlen : ds.length = fn.params.toList.length := by
    have : ∀ (ts : List TypeId) (vs : List Value) (ds : List (DataW H)) (ps : List MemPlace), DataW.TrodAll enc C.prog W 0 (fun _ => true) true ts vs ds ps → ds.length = ts.length := by
      intro ts
      induction ts with
      | nil => intro vs ds ps h; cases vs <;> cases ds <;> simp_all [DataW.TrodAll]
      | cons t ts ih =>
        intro vs ds ps h
        cases vs <;> cases ds <;> simp only [DataW.TrodAll] at h
        obtain ⟨_, _, _, h2, _⟩ := h
        simp [ih _ _ _ h2]
    exact this _ _ _ _ hA
  refine ⟨_, rfl, ds, [], _, [], p, [], hW', ?_, ?_, ?_, hb.frame _, fun h => by cases h⟩
  · rw [List.append_nil, hsp ds hlen, hres]
    exact trodAll_mk1 (shut_bool htb true)
  · rw [List.append_nil, hsp ds hlen]
    exact trodAll_stays hl hb (recs_of hr) hlt hA
  · rw [List.append_nil, hsp ds hlen, hvars]
    exact rfl
end Go.Proofs.YtmomfgfmnpblpaaGreat
namespace Go.Proofs.YtmomfgfmnpblpaaGreat
set_option linter.unusedVariables false
set_option linter.unusedSimpArgs false
open Go Go.ChangeShapes Go.WideShapes Go.ChangeAt Go.RowKit
set_option linter.unusedSimpArgs false
def okU8 (_ : Gh) (_ : UInt8) : Prop := True
theorem opnU8 {P : Program} {t : TypeId} (ht : P.underlying t = some (.int .u8)) : Opn P t byteT okU8 := fun h => by
  obtain ⟨n, rfl, _, hw⟩ := DataW.trod_int ht h
  have : IntKind.u8.min ≤ n ∧ n ≤ IntKind.u8.max := by simpa [Lit.wf] using hw
  simp only [show IntKind.u8.min = 0 from rfl, show IntKind.u8.max = 255 from rfl] at this
  refine ⟨UInt8.ofNat n.toNat, ?_, trivial⟩
  simp only [byteT, UInt8.toNat_ofNat']
  congr 2
  omega
set_option maxRecDepth 100000
theorem Tryz.own : ownKnob Tryz.prog.godebug = none := by kernel_rfl
theorem Tryz.laidOut : laidOutB Tryz.prog = true := by kernel_rfl
theorem fnLabelNets_lifted (os : Os) (started : os.Started) (H : Type) (enc : TypeId × Value → H) :
    ReturnsInHanded {} Tryz.checked os 4 .any (Rows.fnLabelNetsSpec.pre6 enc Tryz.prog Tryz.f4 [] false) (Rows.fnLabelNetsSpec.post enc Tryz.prog Tryz.f4 false true false false) := by
  refine law_lifted (C := Tryz.checked) Tryz.own started (by kernel_rfl) Tryz.func4 Tryz.laidOut rfl (by kernel_rfl) rfl Tryz.underlying4 (fun ds h => ?_)
    (ChangeSpec.witness6 (enc := enc) (C := Tryz.checked) false ⟨#[], #[.slice none 0 0], []⟩ 8 (by kernel_rfl) (by kernel_rfl) (by kernel_rfl) (by kernel_rfl)) ?_
  · match ds, h with
    | [d], _ => rfl
  · intro W base args ds ps hval hA
    have hA : DataW.TrodAll enc Tryz.prog W 0 (fun _ => true) true Tryz.f4.params.toList args.toList ds ps := hA
    have hval : ∀ (j : Nat) t v, Tryz.f4.params[j]? = some t → args[j]? = some v → Value.okWide Tryz.prog W .any base t v := hval
    rw [Tryz.params4] at hA hval
    obtain ⟨v0, d0, rfl, rfl, h0⟩ := trodAll_one hA
    obtain ⟨s, rfl, q1, _⟩ := argSl Tryz.underlying40 (opnSl (F := byteT) (ok := okU8) Tryz.underlying40 (opnU8 Tryz.underlying5) (by kernel_rfl) (by decide)) (hval 0 _ v0 rfl rfl) h0
    exact law_FnLabelNets q1 ⟨rfl, Gh.le_refl _⟩
theorem fnLabelNets_holds : Rows.FnLabelNetsSaid :=
  OpenClaim.holds_of_wide 4 Tryz.f4 rfl rfl rfl rfl rfl rfl rfl ⟨rfl, rfl, rfl, rfl, rfl⟩ rfl rfl rfl rfl rfl (by kernel_rfl) Tryz.func4 (by kernel_rfl)
    (of_decide_eq_true (by kernel_rfl)) (by unfold Func.isWrapper; first | (rw [if_pos (by decide +kernel)]; kernel_rfl) | (rw [if_neg (by decide +kernel)]; exact ⟨rfl, rfl⟩))
    (fun os started H enc _ => fnLabelNets_lifted os started H enc)
end Go.Proofs.YtmomfgfmnpblpaaGreat
