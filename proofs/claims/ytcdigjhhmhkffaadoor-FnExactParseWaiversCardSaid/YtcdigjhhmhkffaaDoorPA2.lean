/-
  The law FnExactParseWaivers: whatever the text, the law returns true; its card.
-/
import Derived.Test.YtcdigjhhmhkffaaDoorPA1
import Derived.Shelf.Strings.Cut
import Derived.Shelf.LaysM
import Derived.Test.YtcdigjhhmhkffaaDoorProg
import Derived.Test.YtcdigjhhmhkffaaDoorRows
import Derived.Test.YtcdigjhhmhkffaaDoorCards
import Derived.Test.YtcdigjhhmhkffaaDoorTie
import Derived.Carry
namespace Go.Proofs.YtcdigjhhmhkffaaDoor
set_option linter.unusedVariables false
set_option linter.unusedSimpArgs false
open Go
set_option maxRecDepth 20000
set_option maxHeartbeats 2000000
set_option linter.unusedSimpArgs false
variable {G : Gh} {L : List Ch} {R : Value → Gh → List Ch → Prop}
theorem txt_nil (l : List UInt8) : txt l = ByteArray.mk #[] ↔ l = [] := by
  constructor
  · intro h; exact txt_inj (h.trans (by rfl : ByteArray.mk #[] = txt []))
  · rintro rfl; rfl
def pwF (s : List UInt8) : List Waiver × Int × Int := pwR (s.length + 1) [] 1 s
/-- the program's tests of a line -/
theorem line_bad {out : List Waiver} {t : List UInt8} (h : (!((rdC (bef 32 t)).isSome) || decide ((rdC (bef 32 t)).getD 0 < 0) || decide (10 < ((bef 32 t).length : Int)) || !reason (txt (aft 32 t))) = true) : lineC out t = 4 := by
  have h2 : (numC (bef 32 t) && reason (txt (aft 32 t))) = false := by
    rw [Bool.and_eq_false_iff]
    by_cases c : numC (bef 32 t) = true
    · right
      obtain ⟨g1, g2, g3⟩ := (rdC_test _).2 c
      have e1 : decide ((rdC (bef 32 t)).getD 0 < 0) = false := decide_eq_false (by omega)
      have e2 : decide (10 < ((bef 32 t).length : Int)) = false := decide_eq_false (by omega)
      rw [g1, e1, e2] at h; simpa using h
    · left; simpa using c
  rw [lineC, h2]; rfl
theorem line_good {t : List UInt8} (h : (!((rdC (bef 32 t)).isSome) || decide ((rdC (bef 32 t)).getD 0 < 0) || decide (10 < ((bef 32 t).length : Int)) || !reason (txt (aft 32 t))) = false) : numC (bef 32 t) = true ∧ reason (txt (aft 32 t)) = true := by
  simp only [Bool.or_eq_false_iff, Bool.not_eq_false', decide_eq_false_iff_not] at h
  exact ⟨(rdC_test _).1 ⟨h.1.1.1, by omega, by omega⟩, h.2⟩
theorem line_is {out : List Waiver} {t : List UInt8} (h1 : numC (bef 32 t) = true) (h2 : reason (txt (aft 32 t)) = true) : lineC out t = if 2147483646 < (valD 0 (bef 32 t) : Int) then 2 else if 0 < out.length ∧ (valD 0 (bef 32 t) : Int) ≤ (gd out (out.length - 1)).sig then 6 else if out.length = 16 then 3 else 0 := by
  rw [lineC, h1, h2]; rfl
theorem parse_i {s : List UInt8} (hL : Lp G) (hs : s.length ≤ 1048576) (k : ∀ v', R (.tuple #[v', vi (pwF s).2.1, vi (pwF s).2.2]) G (osl 35 waiverT v' (pwF s).1 :: L)) : CallT Tryd.prog 5 #[.string (txt s)] G L R := by
  refine CallT.enter (args := _) Tryd.func5 rfl rfl (by kernel_rfl) rfl ?_
  refine WP.seq ?_
  refine WP.region ?_
  refine RG.pv rfl (PV.asg rfl rfl) ?_
  refine RG.pv rfl (PV.mvI (.inr rfl) rfl) ?_
  refine RG.pv rfl (PV.mvI (.inr rfl) rfl) ?_
  refine RG.nil ?_
  refine WP.seq ?_
  refine WP.region ?_
  refine RG.ot rfl (OT.bslice (F := waiverT) (els := []) rfl El22 rfl (by decide) rfl (by decide) trivial fun v16 => ?_)
  refine RG.pv rfl (PV.asg (v := v16) rfl rfl) ?_
  refine RG.nil ?_
  refine WP.seq ?_
  refine WP.seq ?_
  refine WP.region ?_
  refine RG.pv rfl (PV.mvI (.inr rfl) rfl) ?_
  refine RG.nil ?_
  refine WP.block ?_
  refine WP.loop5 [] (fun (l : List UInt8) (out : List Waiver) (f : Nat) (line : Int) (q : Value) => l.length < f ∧ out.length ≤ 16 ∧ 1 ≤ line ∧ line + l.length ≤ 1 + s.length ∧ pwR f out line l = pwF s) (fun (l : List UInt8) (out : List Waiver) (f : Nat) (line : Int) (q : Value) => [(0, .string (txt l)), (6, vi line), (5, q)]) (fun (l : List UInt8) (out : List Waiver) (f : Nat) (line : Int) (q : Value) => osl 35 waiverT q out :: L) (fun (l : List UInt8) (out : List Waiver) (f : Nat) (line : Int) (q : Value) => l.length) s [] (s.length + 1) 1 v16 ⟨by omega, by simp, by omega, by omega, rfl⟩ ⟨rfl, rfl, rfl, trivial⟩ Cv.p ?_
  rintro l out f line q τ ⟨hf, ho, hl1, hl2, he⟩
  refine WP.seq ?_
  refine WP.seq ?_
  refine WP.region ?_
  refine RG.pv rfl (PV.mvS (.inl rfl) rfl) ?_
  refine RG.pv rfl (PV.neqS rfl rfl rfl) ?_
  refine RG.nil ?_
  refine WP.cond rfl (fun h1 => ?_) (fun h1 => ?_)
  · have h1 : l ≠ [] := fun e => by rw [(txt_nil l).2 e] at h1; simp at h1
    have hbl := bef_le 10 l
    have hb2 := bef_le 32 (bef 10 l)
    have ha2 : (aft 32 (bef 10 l)).length ≤ (bef 10 l).length := by rw [aft, List.length_drop]; omega
    refine WP.skip ?_
    refine WP.seq ?_
    refine WP.block ?_
    refine WP.seq ?_
    refine WP.region ?_
    refine RG.pv rfl (PV.mvS (.inl rfl) rfl) ?_
    refine RG.callF (vs := [_, _]) rfl rfl En10 rfl (cut_s (c := 10) hL (by omega) ?_)
    refine RG.pv rfl (PV.move rfl rfl) ?_
    refine RG.pv rfl (PV.ext rfl rfl rfl) ?_
    refine RG.pv rfl (PV.ext rfl rfl rfl) ?_
    refine RG.pv rfl (PV.ext rfl rfl rfl) ?_
    refine RG.pv rfl (PV.mvS (.inr rfl) rfl) ?_
    refine RG.pv rfl (PV.mvS (.inr rfl) rfl) ?_
    refine RG.pv rfl (PV.mvB (.inr rfl) rfl) ?_
    refine RG.nil ?_
    refine WP.seq ?_
    refine WP.region ?_
    refine RG.pv rfl (PV.mvS (.inl rfl) rfl) ?_
    refine RG.callF (vs := [_, _]) rfl rfl En10 rfl (cut_s (c := 32) hL (by omega) ?_)
    refine RG.pv rfl (PV.move rfl rfl) ?_
    refine RG.pv rfl (PV.ext rfl rfl rfl) ?_
    refine RG.pv rfl (PV.ext rfl rfl rfl) ?_
    refine RG.pv rfl (PV.ext rfl rfl rfl) ?_
    refine RG.pv rfl (PV.mvS (.inr rfl) rfl) ?_
    refine RG.pv rfl (PV.mvS (.inr rfl) rfl) ?_
    refine RG.pv rfl (PV.mvB (.inr rfl) rfl) ?_
    refine RG.nil ?_
    refine WP.seq ?_
    refine WP.region ?_
    refine RG.pv rfl (PV.mvS (.inl rfl) rfl) ?_
    refine RG.callF (vs := [_]) rfl rfl En11 rfl (readDec_s hL (by omega) ?_)
    refine RG.pv rfl (PV.move rfl rfl) ?_
    refine RG.pv rfl (PV.ext rfl rfl rfl) ?_
    refine RG.pv rfl (PV.ext rfl rfl rfl) ?_
    refine RG.pv rfl (PV.mvI (.inr rfl) rfl) ?_
    refine RG.pv rfl (PV.mvB (.inr rfl) rfl) ?_
    refine RG.nil ?_
    refine WP.seq ?_
    refine WP.region ?_
    refine RG.pv rfl (PV.mvI (.inr rfl) rfl) ?_
    refine RG.nil ?_
    refine WP.seq ?_
    refine WP.block ?_
    refine WP.seq ?_
    refine WP.region ?_
    refine RG.pv rfl (PV.mvB (.inl rfl) rfl) ?_
    refine RG.pv rfl (PV.not rfl rfl) ?_
    refine RG.pv rfl (PV.mvB (.inl rfl) rfl) ?_
    refine RG.gs rfl rfl rfl (fun hp => (PV.mvB (.inl rfl) rfl)) ?_
    refine RG.gs rfl rfl rfl (fun hp => (PV.not rfl (gs_t hp))) ?_
    refine RG.pv rfl (PV.pickO rfl rfl rfl (fun hq => gs_t (geqF hq))) ?_
    refine RG.pv rfl (PV.mvB (.inl rfl) rfl) ?_
    refine RG.gs rfl rfl rfl (fun hp => (PV.mvI (.inl rfl) rfl)) ?_
    refine RG.gs rfl rfl rfl (fun hp => (PV.lss rfl (gs_t hp) rfl)) ?_
    refine RG.pv rfl (PV.pickO rfl rfl rfl (fun hq => gs_t (geqF hq))) ?_
    refine RG.pv rfl (PV.mvB (.inl rfl) rfl) ?_
    refine RG.gs rfl rfl rfl (fun hp => (PV.mvS (.inl rfl) rfl)) ?_
    refine RG.gs rfl rfl rfl (fun hp => (PV.lenS rfl Tryd.underlying9 (gs_t hp))) ?_
    refine RG.gs rfl rfl rfl (fun hp => (PV.gtr rfl (gs_t hp) rfl)) ?_
    refine RG.pv rfl (PV.pickO rfl rfl rfl (fun hq => gs_t (geqF hq))) ?_
    refine RG.pv rfl (PV.mvB (.inl rfl) rfl) ?_
    refine RG.gs rfl rfl rfl (fun hp => (PV.mvS (.inl rfl) rfl)) ?_
    refine RG.gsC rfl rfl rfl rfl En12 (fun hp => ⟨_, (acons (gs_t hp) anil), isReason_s (by rw [txt_size]; omega) ⟨rfl, rfl, rfl⟩⟩) ?_
    refine RG.gs rfl rfl rfl (fun hp => (PV.not rfl (gs_t hp))) ?_
    refine RG.pv rfl (PV.pickO rfl rfl rfl (fun hq => gs_t (geqF hq))) ?_
    refine RG.pv rfl (PV.mvB (.inr rfl) rfl) ?_
    refine RG.nil ?_
    refine WP.cond rfl (fun h2 => ?_) (fun h2 => ?_)
    · have e : pwF s = ([], 4, line) := by
        by_cases hen : (bef 10 l).length < l.length
        · have hc : lineC out (bef 10 l) = 4 := line_bad (by simp only [hen, decide_true, Bool.not_true, Bool.false_or] at h2; simpa [txt_size] using h2)
          have e := he.symm.trans (pwR_bad (by omega) h1 hen (by rw [hc]; decide))
          rwa [hc] at e
        · exact he.symm.trans (pwR_end (by omega) h1 hen)
      rw [e] at k
      refine WP.region ?_
      refine RG.pv rfl (PV.mvI (.inr rfl) rfl) ?_
      refine RG.nil ?_
      refine WP.seq ?_
      refine WP.seq ?_
      refine WP.region ?_
      refine RG.pv rfl (PV.mvI (.inl rfl) rfl) ?_
      refine RG.pv rfl (PV.neq rfl rfl rfl) ?_
      refine RG.nil ?_
      refine WP.cond rfl (fun h3 => ?_) (fun h3 => ?_)
      · refine WP.seq ?_
        refine WP.region ?_
        refine RG.pv rfl (PV.mvI (.inl rfl) rfl) ?_
        refine RG.pv rfl (PV.mvI (.inl rfl) rfl) ?_
        refine RG.pv rfl (PV.asg rfl rfl) ?_
        refine RG.pv rfl (PV.mvI (.inr rfl) rfl) ?_
        refine RG.pv rfl (PV.mvI (.inr rfl) rfl) ?_
        refine RG.nil ?_
        refine WP.ret ?_
        exact ⟨_, _, ResV.three rfl rfl rfl rfl, Cv.nilP, k (.slice none 0 0)⟩
      · skip
        simp at h3
    · have hen : (bef 10 l).length < l.length := by
        by_cases hen : (bef 10 l).length < l.length
        · exact hen
        · exfalso; simp [hen] at h2
      obtain ⟨g1, g2⟩ := line_good (t := bef 10 l) (by simp only [hen, decide_true, Bool.not_true, Bool.false_or] at h2; simpa [txt_size] using h2)
      have hv : (rdC (bef 32 (bef 10 l))).getD 0 = (valD 0 (bef 32 (bef 10 l)) : Int) := by rw [rdC_num g1]; rfl
      have hli := line_is (out := out) g1 g2
      have hbad := fun (h : lineC out (bef 10 l) ≠ 0) => he.symm.trans (pwR_bad (by omega) h1 hen h)
      refine WP.seq ?_
      refine WP.region ?_
      refine RG.pv rfl (PV.mvI (.inl rfl) rfl) ?_
      refine RG.pv rfl (PV.gtr rfl rfl rfl) ?_
      refine RG.pv rfl (PV.mvB (.inr rfl) rfl) ?_
      refine RG.nil ?_
      rw [hv]
      refine WP.cond rfl (fun h3 => ?_) (fun h3 => ?_)
      · have h3 := of_decide_eq_true h3
        have hc : lineC out (bef 10 l) = 2 := by rw [hli, if_pos h3]
        have e := hbad (by rw [hc]; decide)
        rw [hc] at e
        rw [e] at k
        refine WP.region ?_
        refine RG.pv rfl (PV.mvI (.inr rfl) rfl) ?_
        refine RG.nil ?_
        refine WP.seq ?_
        refine WP.seq ?_
        refine WP.region ?_
        refine RG.pv rfl (PV.mvI (.inl rfl) rfl) ?_
        refine RG.pv rfl (PV.neq rfl rfl rfl) ?_
        refine RG.nil ?_
        refine WP.cond rfl (fun h5 => ?_) (fun h5 => ?_)
        · refine WP.seq ?_
          refine WP.region ?_
          refine RG.pv rfl (PV.mvI (.inl rfl) rfl) ?_
          refine RG.pv rfl (PV.mvI (.inl rfl) rfl) ?_
          refine RG.pv rfl (PV.asg rfl rfl) ?_
          refine RG.pv rfl (PV.mvI (.inr rfl) rfl) ?_
          refine RG.pv rfl (PV.mvI (.inr rfl) rfl) ?_
          refine RG.nil ?_
          refine WP.ret ?_
          exact ⟨_, _, ResV.three rfl rfl rfl rfl, Cv.nilP, k (.slice none 0 0)⟩
        · skip
          simp at h5
      · have h3 := of_decide_eq_false h3
        refine WP.seq ?_
        refine WP.region ?_
        refine RG.pv rfl (PV.move (v := q) rfl rfl) ?_
        refine RG.pv rfl (PV.len (v := q) rfl Tryd.underlying22 rfl SlF.o) ?_
        refine RG.pv rfl (PV.gtr rfl rfl rfl) ?_
        refine RG.pv rfl (PV.mvB (.inl rfl) rfl) ?_
        refine RG.gs rfl rfl rfl (fun hp => (PV.move (v := q) rfl rfl)) ?_
        refine RG.gs rfl rfl rfl (fun hp => (PV.move (v := q) rfl rfl)) ?_
        refine RG.gs rfl rfl rfl (fun hp => (PV.len (v := q) rfl Tryd.underlying22 (gs_t hp) SlF.o)) ?_
        refine RG.gs rfl rfl rfl (fun hp => (PV.sub rfl (gs_t hp) rfl (by first | omega | (simp at hp; omega)))) ?_
        refine RG.gs rfl rfl rfl (fun hp => (PV.idxS (j := (out.length - 1)) (v := q) rfl Is22 (gs_t hp) SlF.o (gs_t hp) (by first | omega | (simp at hp; omega)) (by first | omega | (simp at hp; omega)))) ?_
        refine RG.gs rfl rfl rfl (fun hp => (PV.field rfl Fo35_0 (gs_t hp))) ?_
        refine RG.gs rfl rfl rfl (fun hp => (PV.loadF (v := q) (j := 0) rfl Sc2 (gs_t hp) rfl (El.o (getG (by first | omega | (simp at hp; omega)))) rfl)) ?_
        refine RG.gs rfl rfl rfl (fun hp => (PV.mvI (.inl rfl) rfl)) ?_
        refine RG.gs rfl rfl rfl (fun hp => (PV.geq rfl (gs_t hp) (gs_t hp))) ?_
        refine RG.pv rfl (PV.pickA rfl rfl (fun hq => gs_t (geqT hq)) rfl) ?_
        refine RG.pv rfl (PV.mvB (.inr rfl) rfl) ?_
        refine RG.nil ?_
        refine WP.cond rfl (fun h4 => ?_) (fun h4 => ?_)
        · have h4 : 0 < out.length ∧ (valD 0 (bef 32 (bef 10 l)) : Int) ≤ (gd out (out.length - 1)).sig := by simp only [Bool.and_eq_true, decide_eq_true_eq] at h4; exact ⟨by omega, by omega⟩
          have hc : lineC out (bef 10 l) = 6 := by rw [hli, if_neg h3, if_pos h4]
          have e := hbad (by rw [hc]; decide)
          rw [hc] at e
          rw [e] at k
          refine WP.region ?_
          refine RG.pv rfl (PV.mvI (.inr rfl) rfl) ?_
          refine RG.nil ?_
          refine WP.seq ?_
          refine WP.seq ?_
          refine WP.region ?_
          refine RG.pv rfl (PV.mvI (.inl rfl) rfl) ?_
          refine RG.pv rfl (PV.neq rfl rfl rfl) ?_
          refine RG.nil ?_
          refine WP.cond rfl (fun h5 => ?_) (fun h5 => ?_)
          · refine WP.seq ?_
            refine WP.region ?_
            refine RG.pv rfl (PV.mvI (.inl rfl) rfl) ?_
            refine RG.pv rfl (PV.mvI (.inl rfl) rfl) ?_
            refine RG.pv rfl (PV.asg rfl rfl) ?_
            refine RG.pv rfl (PV.mvI (.inr rfl) rfl) ?_
            refine RG.pv rfl (PV.mvI (.inr rfl) rfl) ?_
            refine RG.nil ?_
            refine WP.ret ?_
            exact ⟨_, _, ResV.three rfl rfl rfl rfl, Cv.nilP, k (.slice none 0 0)⟩
          · skip
            simp at h5
        · have h4 : ¬ (0 < out.length ∧ (valD 0 (bef 32 (bef 10 l)) : Int) ≤ (gd out (out.length - 1)).sig) := fun g => by
            simp only [Bool.and_eq_false_iff, decide_eq_false_iff_not] at h4; omega
          refine WP.seq ?_
          refine WP.region ?_
          refine RG.pv rfl (PV.move (v := q) rfl rfl) ?_
          refine RG.pv rfl (PV.len (v := q) rfl Tryd.underlying22 rfl SlF.o) ?_
          refine RG.pv rfl (PV.eql rfl rfl rfl) ?_
          refine RG.pv rfl (PV.mvB (.inr rfl) rfl) ?_
          refine RG.nil ?_
          refine WP.cond rfl (fun h6 => ?_) (fun h6 => ?_)
          · have h6 : out.length = 16 := by have := of_decide_eq_true h6; omega
            have hc : lineC out (bef 10 l) = 3 := by rw [hli, if_neg h3, if_neg h4, if_pos h6]
            have e := hbad (by rw [hc]; decide)
            rw [hc] at e
            rw [e] at k
            refine WP.region ?_
            refine RG.pv rfl (PV.mvI (.inr rfl) rfl) ?_
            refine RG.nil ?_
            refine WP.seq ?_
            refine WP.seq ?_
            refine WP.region ?_
            refine RG.pv rfl (PV.mvI (.inl rfl) rfl) ?_
            refine RG.pv rfl (PV.neq rfl rfl rfl) ?_
            refine RG.nil ?_
            refine WP.cond rfl (fun h5 => ?_) (fun h5 => ?_)
            · refine WP.seq ?_
              refine WP.region ?_
              refine RG.pv rfl (PV.mvI (.inl rfl) rfl) ?_
              refine RG.pv rfl (PV.mvI (.inl rfl) rfl) ?_
              refine RG.pv rfl (PV.asg rfl rfl) ?_
              refine RG.pv rfl (PV.mvI (.inr rfl) rfl) ?_
              refine RG.pv rfl (PV.mvI (.inr rfl) rfl) ?_
              refine RG.nil ?_
              refine WP.ret ?_
              exact ⟨_, _, ResV.three rfl rfl rfl rfl, Cv.nilP, k (.slice none 0 0)⟩
            · skip
              simp at h5
          · have h6 : out.length ≠ 16 := by have := of_decide_eq_false h6; omega
            have hc : lineC out (bef 10 l) = 0 := by rw [hli, if_neg h3, if_neg h4, if_neg h6]
            have e := pwR_next (f := f) (line := line) (by omega) h1 hen hc
            have hal := aft_len hen
            refine WP.skip ?_
            refine WP.seq ?_
            refine WP.seq ?_
            refine WP.region ?_
            refine RG.pv rfl (PV.mvI (.inl rfl) rfl) ?_
            refine RG.pv rfl (PV.neq rfl rfl rfl) ?_
            refine RG.nil ?_
            refine WP.cond rfl (fun h5 => ?_) (fun h5 => ?_)
            · simp at h5
            · skip
              refine WP.skip ?_
              refine WP.seq ?_
              refine WP.region ?_
              refine RG.pv rfl (PV.move (v := q) rfl rfl) ?_
              refine RG.pv rfl (PV.mvI (.inl rfl) rfl) ?_
              refine RG.pv rfl (PV.mvS (.inl rfl) rfl) ?_
              refine RG.pv rfl (PV.build (vs := [(0, [vi _]), (1, [.string _])]) (out := [_, _]) rfl Zr35 Pl35 ⟨rfl, (Cl.c rfl), ⟨rfl, (Cl.c rfl), trivial⟩⟩ rfl) ?_
              refine RG.ot rfl (OT.bslice (F := waiverT) (els := [⟨_, _⟩]) rfl El22 rfl (by decide) rfl (by decide) ⟨rfl, (Cl.c rfl), trivial⟩ fun v89 => ?_)
              refine RG.ot rfl (OT.append (v := q) (u := v89) (F := waiverT) rfl El22 rfl (by decide) rfl rfl Rs.o (OneL.c (fun _ => rfl)) rfl (by first | omega | (simp <;> omega)) fun v90 => ?_)
              refine RG.pv rfl (PV.asg (v := v90) rfl rfl) ?_
              refine RG.nil ?_
              refine WP.region ?_
              refine RG.pv rfl (PV.mvS (.inl rfl) rfl) ?_
              refine RG.pv rfl (PV.mvS (.inr rfl) rfl) ?_
              refine RG.nil ?_
              refine WP.region ?_
              refine RG.pv rfl (PV.mvI (.inl rfl) rfl) ?_
              refine RG.pv rfl (PV.add rfl rfl rfl (by omega)) ?_
              refine RG.pv rfl (PV.mvI (.inr rfl) rfl) ?_
              refine RG.nil ?_
              exact ⟨rfl, (aft 10 l), (out ++ [⟨(valD 0 (bef 32 (bef 10 l)) : Int), ⟨(aft 32 (bef 10 l)).toArray⟩⟩]), (f - 1), (line + 1), v90, ⟨by omega, by simp; omega, by omega, by omega, e.symm.trans he⟩, ⟨rfl, rfl, rfl, trivial⟩, trivial, Cv.p, by omega⟩
  · have h1 : l = [] := by simpa [txt_nil] using h1
    subst h1
    rw [pwR_nil] at he
    rw [← he] at k
    refine WP.exit ?_
    refine WP.seq ?_
    refine WP.region ?_
    refine RG.pv rfl (PV.move (v := q) rfl rfl) ?_
    refine RG.pv rfl (PV.asg (v := q) rfl rfl) ?_
    refine RG.pv rfl (PV.mvI (.inr rfl) rfl) ?_
    refine RG.pv rfl (PV.mvI (.inr rfl) rfl) ?_
    refine RG.nil ?_
    refine WP.ret ?_
    exact ⟨_, _, ResV.three rfl rfl rfl rfl, Cv.p, k q⟩
end Go.Proofs.YtcdigjhhmhkffaaDoor
namespace Go.Proofs.YtcdigjhhmhkffaaDoor
set_option linter.unusedVariables false
set_option linter.unusedSimpArgs false
open Go
set_option maxRecDepth 20000
set_option maxHeartbeats 2000000
set_option linter.unusedSimpArgs false
variable {G : Gh} {L : List Ch} {R : Value → Gh → List Ch → Prop}
section
variable {P : Program} {σ : Nat → Value} {o : Oper} {T T' : TypeId} {x y : Operand}
theorem PV.subU8 {a b : Int} (ho : o.op = .binOp .sub T x y T') (hx : ev σ x = .int .u8 a) (hy : ev σ y = .int .u8 b) (hr : 0 ≤ a - b ∧ a - b < 256) : PV P o σ G L (.int .u8 (a - b)) := by
  have h := PV.subW (P := P) (G := G) (L := L) ho hx hy
  have e : IntKind.wrap .u8 (a - b) = a - b := by
    simp only [IntKind.wrap]
    simp [IntKind.signed, IntKind.bits]
    omega
  rwa [e] at h
end
theorem bt_txt (l : List UInt8) (i : Nat) : bt (txt l) i = gd l i := by
  by_cases h : i < l.length
  · have hz : (txt l).size = l.length := txt_size l
    rw [bt_eq (by omega), gd_eq h]; simp [txt, ByteArray.getElem_eq_getElem_data]
  · have hz : (txt l).size = l.length := txt_size l
    unfold bt gd
    rw [List.getElem?_eq_none (by omega), getElem?_neg _ _ (by omega)]; rfl
theorem txt_ext (l : List UInt8) (a b : Nat) : (txt l).extract a b = txt ((l.take b).drop a) := by
  apply ByteArray.ext
  simp [txt, List.drop_take]
theorem gdm {α : Type} [Inhabited α] {xs : List α} {i : Nat} (h : i < xs.length) : gd xs i ∈ xs := by rw [gd_eq h]; exact List.getElem_mem h
theorem u8eq {c : UInt8} {n : Nat} (h : n < 256) : c = UInt8.ofNat n ↔ c.toNat = n := by
  constructor
  · rintro rfl; rw [UInt8.toNat_ofNat']; omega
  · intro e; exact UInt8.toNat_inj.1 (by rw [e, UInt8.toNat_ofNat']; omega)
theorem numC_none {l : List UInt8} (h : l.length < 1 ∨ 10 < l.length ∨ (gd l 0 = 48 ∧ 1 < l.length)) : numC l = false := by
  rw [Bool.eq_false_iff]
  intro h2
  obtain ⟨h3, h4, h5, h6⟩ := numC_iff.1 h2
  rcases h with h | h | ⟨h, h7⟩
  · omega
  · omega
  · have := h6 h; omega
theorem numC_bad {l : List UInt8} {i : Nat} (hi : i < l.length) (h : isDg (gd l i) = false) : numC l = false := by
  rw [Bool.eq_false_iff]
  intro h2
  obtain ⟨h3, h4, h5, h6⟩ := numC_iff.1 h2
  have := List.all_eq_true.1 h5 _ (gdm hi)
  rw [h] at this; cases this
theorem valD_take {l : List UInt8} {i : Nat} (h : i < l.length) : valD 0 (l.take (i + 1)) = valD 0 (l.take i) * 10 + ((gd l i).toNat - 48) := by
  rw [List.take_add_one, getG h, Option.toList_some, valD_app, valD_cons, valD_nil]
theorem all_take {l : List UInt8} {i : Nat} (h : ∀ j, j < i → isDg (gd l j) = true) (hi : i ≤ l.length) : (l.take i).all isDg = true := by
  rw [List.all_eq_true]
  intro x hx
  obtain ⟨j, hj, e⟩ := List.getElem_of_mem hx
  have hj2 : j < i := by rw [List.length_take] at hj; omega
  have := h j hj2
  rw [gd_eq (by omega)] at this
  rw [← e, List.getElem_take]; exact this
def numV (l : List UInt8) : Int := if numC l then (valD 0 l : Nat) else 0
theorem number_s {s : ByteArray} {l : List UInt8} (hs : s = txt l) (hl : l.length ≤ 1048576) (k : R (.tuple #[vi (numV l), .bool (numC l)]) G L) : CallT Tryd.prog 15 #[.string s] G L R := by
  subst hs
  have hz : (txt l).size = l.length := txt_size l
  have hb0 := bt_txt l 0
  have hg : gd l 0 = 48 ↔ (gd l 0).toNat = 48 := u8eq (n := 48) (by omega)
  refine CallT.enter (args := _) Tryd.func15 rfl rfl (by kernel_rfl) rfl ?_
  refine WP.seq ?_
  refine WP.region ?_
  refine RG.pv rfl (PV.mvI (.inr rfl) rfl) ?_
  refine RG.pv rfl (PV.mvB (.inr rfl) rfl) ?_
  refine RG.nil ?_
  refine WP.seq ?_
  refine WP.seq ?_
  refine WP.region ?_
  refine RG.pv rfl (PV.mvS (.inl rfl) rfl) ?_
  refine RG.pv rfl (PV.lenS rfl Tryd.underlying9 rfl) ?_
  refine RG.pv rfl (PV.lss rfl rfl rfl) ?_
  refine RG.pv rfl (PV.mvB (.inl rfl) rfl) ?_
  refine RG.gs rfl rfl rfl (fun hp => (PV.mvS (.inl rfl) rfl)) ?_
  refine RG.gs rfl rfl rfl (fun hp => (PV.lenS rfl Tryd.underlying9 (gs_t hp))) ?_
  refine RG.gs rfl rfl rfl (fun hp => (PV.gtr rfl (gs_t hp) rfl)) ?_
  refine RG.pv rfl (PV.pickO rfl rfl rfl (fun hq => gs_t (geqF hq))) ?_
  refine RG.pv rfl (PV.mvB (.inl rfl) rfl) ?_
  refine RG.gs rfl rfl rfl (fun hp => (PV.mvS (.inl rfl) rfl)) ?_
  refine RG.gs rfl rfl rfl (fun hp => (PV.idxStr (j := 0) rfl Tryd.underlying9 (gs_t hp) rfl (by first | omega | (simp at hp; omega)) (getBG (by first | omega | (simp at hp; omega))))) ?_
  refine RG.gs rfl rfl rfl (fun hp => (PV.eql rfl (gs_t hp) rfl)) ?_
  refine RG.gs rfl rfl rfl (fun hp => (PV.mvB (.inl rfl) (gs_t hp))) ?_
  refine RG.gs2 rfl rfl rfl (fun hp => (PV.mvS (.inl rfl) rfl)) ?_
  refine RG.gs2 rfl rfl rfl (fun hp => (PV.lenS rfl Tryd.underlying9 (gs_t hp))) ?_
  refine RG.gs2 rfl rfl rfl (fun hp => (PV.gtr rfl (gs_t hp) rfl)) ?_
  refine RG.gs rfl rfl rfl (fun hp => (PV.pickA rfl (gs_t hp) (fun hq => gs_t (gandT hp hq)) rfl)) ?_
  refine RG.pv rfl (PV.pickO rfl rfl rfl (fun hq => gs_t (geqF hq))) ?_
  refine RG.nil ?_
  refine WP.cond rfl (fun h1 => ?_) (fun h1 => ?_)
  · have e : numC l = false := numC_none (by rw [hg]; simp [hz, hb0] at h1; omega)
    rw [numV, e] at k
    refine WP.seq ?_
    refine WP.region ?_
    refine RG.pv rfl (PV.mvI (.inr rfl) rfl) ?_
    refine RG.pv rfl (PV.mvB (.inr rfl) rfl) ?_
    refine RG.nil ?_
    refine WP.ret ?_
    exact ⟨_, _, ResV.two rfl rfl rfl, Cv.p, k⟩
  · have h2 : ¬ (l.length < 1 ∨ 10 < l.length ∨ (gd l 0 = 48 ∧ 1 < l.length)) := fun g => by
      rw [hg] at g
      simp [hz, hb0] at h1; omega
    refine WP.skip ?_
    refine WP.seq ?_
    refine WP.region ?_
    refine RG.pv rfl (PV.mvI (.inr rfl) rfl) ?_
    refine RG.nil ?_
    refine WP.seq ?_
    refine WP.seq ?_
    refine WP.region ?_
    refine RG.pv rfl (PV.mvI (.inr rfl) rfl) ?_
    refine RG.nil ?_
    refine WP.block ?_
    refine WP.loop2 [0] (fun (i : Nat) (n : Int) => i ≤ l.length ∧ (∀ j, j < i → isDg (gd l j) = true) ∧ n = (valD 0 (l.take i) : Nat)) (fun (i : Nat) (n : Int) => [(5, vi i), (4, vi n)]) (fun (i : Nat) (n : Int) => L) (fun (i : Nat) (n : Int) => l.length - i) 0 0 ⟨by omega, fun j h => by omega, by rw [List.take_zero, valD_nil]; rfl⟩ ⟨rfl, rfl, trivial⟩ Cv.p ?_
    rintro i n τ ⟨hi, hd, hn⟩
    refine WP.seq ?_
    refine WP.seq ?_
    refine WP.region ?_
    refine RG.pv rfl (PV.mvI (.inl rfl) rfl) ?_
    refine RG.pv rfl (PV.mvS (.inl rfl) rfl) ?_
    refine RG.pv rfl (PV.lenS rfl Tryd.underlying9 rfl) ?_
    refine RG.pv rfl (PV.lss rfl rfl rfl) ?_
    refine RG.nil ?_
    have hlt := valD_lt (l.take i) 0 (all_take hd hi)
    have hp10 : 10 ^ (l.take i).length ≤ 10 ^ 10 := Nat.pow_le_pow_right (by omega) (by rw [List.length_take]; omega)
    refine WP.cond rfl (fun h3 => ?_) (fun h3 => ?_)
    · have h3 := of_decide_eq_true h3
      have h4 : i < l.length := by omega
      have hbi := bt_txt l i
      refine WP.skip ?_
      refine WP.seq ?_
      refine WP.block ?_
      refine WP.seq ?_
      refine WP.seq ?_
      refine WP.region ?_
      refine RG.pv rfl (PV.mvS (.inl rfl) rfl) ?_
      refine RG.pv rfl (PV.mvI (.inl rfl) rfl) ?_
      refine RG.pv rfl (PV.idxStr rfl Tryd.underlying9 rfl rfl rfl (getBG (by omega))) ?_
      refine RG.pv rfl (PV.lss rfl rfl rfl) ?_
      refine RG.pv rfl (PV.mvB (.inl rfl) rfl) ?_
      refine RG.gs rfl rfl rfl (fun hp => (PV.mvS (.inl rfl) rfl)) ?_
      refine RG.gs rfl rfl rfl (fun hp => (PV.mvI (.inl rfl) rfl)) ?_
      refine RG.gs rfl rfl rfl (fun hp => (PV.idxStr rfl Tryd.underlying9 (gs_t hp) (gs_t hp) rfl (getBG (by first | omega | (simp at hp; omega))))) ?_
      refine RG.gs rfl rfl rfl (fun hp => (PV.gtr rfl (gs_t hp) rfl)) ?_
      refine RG.pv rfl (PV.pickO rfl rfl rfl (fun hq => gs_t (geqF hq))) ?_
      refine RG.nil ?_
      refine WP.cond rfl (fun h5 => ?_) (fun h5 => ?_)
      · have e : numC l = false := numC_bad h4 (by
          rw [hbi] at h5
          rw [isDg, Bool.and_eq_false_iff, decide_eq_false_iff_not, decide_eq_false_iff_not]
          simp at h5; omega)
        rw [numV, e] at k
        refine WP.seq ?_
        refine WP.region ?_
        refine RG.pv rfl (PV.mvI (.inr rfl) rfl) ?_
        refine RG.pv rfl (PV.mvB (.inr rfl) rfl) ?_
        refine RG.nil ?_
        refine WP.ret ?_
        exact ⟨_, _, ResV.two rfl rfl rfl, Cv.p, k⟩
      · have h6 : 48 ≤ (gd l i).toNat ∧ (gd l i).toNat ≤ 57 := by
          rw [hbi] at h5; simp at h5; omega
        have h7 : isDg (gd l i) = true := isDg_iff.2 h6
        have hbu : (bt (txt l) i).toNat = (gd l i).toNat := by rw [hbi]
        refine WP.skip ?_
        refine WP.region ?_
        refine RG.pv rfl (PV.mvI (.inl rfl) rfl) ?_
        refine RG.pv rfl (PV.mul rfl rfl rfl (by omega)) ?_
        refine RG.pv rfl (PV.mvS (.inl rfl) rfl) ?_
        refine RG.pv rfl (PV.mvI (.inl rfl) rfl) ?_
        refine RG.pv rfl (PV.idxStr rfl Tryd.underlying9 rfl rfl rfl (getBG (by omega))) ?_
        refine RG.pv rfl (PV.subU8 rfl rfl rfl (by rw [hbi]; omega)) ?_
        refine RG.pv rfl (PV.conv rfl ⟨_, Tryd.underlying5⟩ Tryd.underlying2 rfl (i64w (by rw [hbi]; omega))) ?_
        refine RG.pv rfl (PV.add rfl rfl rfl (by omega)) ?_
        refine RG.pv rfl (PV.mvI (.inr rfl) rfl) ?_
        refine RG.nil ?_
        refine WP.region ?_
        refine RG.pv rfl (PV.mvI (.inl rfl) rfl) ?_
        refine RG.pv rfl (PV.add rfl rfl rfl (by omega)) ?_
        refine RG.pv rfl (PV.mvI (.inr rfl) rfl) ?_
        refine RG.nil ?_
        refine ⟨rfl, i + 1, (10 * n + (((bt (txt l) i).toNat : Int) - 48)), ⟨by omega, fun j hj => ?_, by rw [hbi, valD_take h4, hn]; omega⟩, ⟨rfl, rfl, trivial⟩, ⟨rfl, trivial⟩, Cv.p, by omega⟩
        by_cases c : j = i
        · rw [c]; exact h7
        · exact hd j (by omega)
    · have h3 := of_decide_eq_false h3
      obtain rfl : i = l.length := by omega
      rw [List.take_length] at hn
      have e : numC l = true := by
        have := all_take hd hi
        rw [List.take_length] at this
        refine numC_iff.2 ⟨by omega, by omega, this, fun h => ?_⟩
        by_cases c : 1 < l.length
        · exact absurd (.inr (.inr ⟨h, c⟩)) h2
        · omega
      have e2 : numV l = n := by rw [numV, e, hn]; rfl
      rw [e2, e] at k
      refine WP.exit ?_
      refine WP.seq ?_
      refine WP.region ?_
      refine RG.pv rfl (PV.mvI (.inl rfl) rfl) ?_
      refine RG.pv rfl (PV.mvI (.inr rfl) rfl) ?_
      refine RG.pv rfl (PV.mvB (.inr rfl) rfl) ?_
      refine RG.nil ?_
      refine WP.ret ?_
      exact ⟨_, _, ResV.two rfl rfl rfl, Cv.p, k⟩
def nxtW (out : List Waiver) (l : List UInt8) : List Waiver := if lineC out l = 0 then out ++ [lineW l] else []
theorem line_r {s : ByteArray} {l : List UInt8} {v : Value} {out : List Waiver} (hs : s = txt l) (hl : l.length ≤ 1048576) (ho : out.length ≤ 16) (k : ∀ v', R (.tuple #[v', vi (lineC out l)]) G (osl 35 waiverT v' (nxtW out l) :: L)) : CallT Tryd.prog 9 #[v, .string s] G (osl 35 waiverT v out :: L) R := by
  subst hs
  have hz : (txt l).size = l.length := txt_size l
  refine CallT.enter (args := _) Tryd.func9 rfl rfl (by kernel_rfl) rfl ?_
  refine WP.seq ?_
  refine WP.region ?_
  refine RG.pv rfl (PV.asg rfl rfl) ?_
  refine RG.pv rfl (PV.mvI (.inr rfl) rfl) ?_
  refine RG.nil ?_
  refine WP.seq ?_
  refine WP.region ?_
  refine RG.pv rfl (PV.mvI (.inr rfl) rfl) ?_
  refine RG.nil ?_
  refine WP.seq ?_
  refine WP.block ?_
  refine WP.loop1 [0, 1] (fun i => i ≤ l.length ∧ ∀ j, j < i → gd l j ≠ 32) (fun i => [(6, vi i)]) (fun i => osl 35 waiverT v out :: L) (fun i => l.length - i) 0 ⟨by omega, fun j h => by omega⟩ ⟨rfl, trivial⟩ Cv.p ?_
  rintro i τ ⟨hi, hn⟩
  refine WP.seq ?_
  refine WP.seq ?_
  refine WP.region ?_
  refine RG.pv rfl (PV.mvI (.inl rfl) rfl) ?_
  refine RG.pv rfl (PV.mvS (.inl rfl) rfl) ?_
  refine RG.pv rfl (PV.lenS rfl Tryd.underlying9 rfl) ?_
  refine RG.pv rfl (PV.lss rfl rfl rfl) ?_
  refine RG.pv rfl (PV.mvB (.inl rfl) rfl) ?_
  refine RG.gs rfl rfl rfl (fun hp => (PV.mvS (.inl rfl) rfl)) ?_
  refine RG.gs rfl rfl rfl (fun hp => (PV.mvI (.inl rfl) rfl)) ?_
  refine RG.gs rfl rfl rfl (fun hp => (PV.idxStr rfl Tryd.underlying9 (gs_t hp) (gs_t hp) rfl (getBG (by first | omega | (simp at hp; omega))))) ?_
  refine RG.gs rfl rfl rfl (fun hp => (PV.neq rfl (gs_t hp) rfl)) ?_
  refine RG.pv rfl (PV.pickA rfl rfl (fun hq => gs_t (geqT hq)) rfl) ?_
  refine RG.nil ?_
  have hbi := bt_txt l i
  refine WP.cond rfl (fun h1 => ?_) (fun h1 => ?_)
  · have h2 : i < l.length ∧ gd l i ≠ 32 := by
      rw [hbi] at h1
      simp [hz] at h1
      exact ⟨by omega, fun e => by have := (u8eq (n := 32) (by omega)).1 e; omega⟩
    refine WP.skip ?_
    refine WP.block ?_
    refine WP.region ?_
    refine RG.pv rfl (PV.mvI (.inl rfl) rfl) ?_
    refine RG.pv rfl (PV.add rfl rfl rfl (by omega)) ?_
    refine RG.pv rfl (PV.mvI (.inr rfl) rfl) ?_
    refine RG.nil ?_
    refine ⟨rfl, i + 1, ⟨by omega, fun j hj => ?_⟩, ⟨rfl, trivial⟩, ⟨rfl, rfl, trivial⟩, Cv.p, by omega⟩
    by_cases c : j = i
    · rw [c]; exact h2.2
    · exact hn j (by omega)
  · have hb : (bef 32 l).length = i := bef_at hi hn (by
      by_cases c : i = l.length
      · exact .inl c
      · right
        rw [hbi] at h1
        have c2 : (i : Int) < l.length := by omega
        simp [hz, c2] at h1
        exact (u8eq (n := 32) (by omega)).2 (by omega))
    refine WP.exit ?_
    refine WP.seq ?_
    refine WP.seq ?_
    refine WP.region ?_
    refine RG.pv rfl (PV.mvI (.inl rfl) rfl) ?_
    refine RG.pv rfl (PV.mvS (.inl rfl) rfl) ?_
    refine RG.pv rfl (PV.lenS rfl Tryd.underlying9 rfl) ?_
    refine RG.pv rfl (PV.eql rfl rfl rfl) ?_
    refine RG.nil ?_
    refine WP.cond rfl (fun h2 => ?_) (fun h2 => ?_)
    · have h2 : i = l.length := by have := of_decide_eq_true h2; omega
      have hc : lineC out l = 4 := by
        have e : reason (txt (aft 32 l)) = false := by rw [aft_full (hb.trans h2)]; rfl
        rw [lineC, e, Bool.and_false]; rfl
      have hnx : nxtW out l = [] := by rw [nxtW, if_neg (by rw [hc]; decide)]
      rw [hc, hnx] at k
      refine WP.seq ?_
      refine WP.region ?_
      refine RG.pv rfl (PV.asg rfl rfl) ?_
      refine RG.pv rfl (PV.mvI (.inr rfl) rfl) ?_
      refine RG.nil ?_
      refine WP.ret ?_
      exact ⟨_, _, ResV.two rfl rfl rfl, Cv.nilP, k (.slice none 0 0)⟩
    · have h2 : i < l.length := by have := of_decide_eq_false h2; omega
      have hbt : (txt l).extract 0 i = txt (bef 32 l) := by rw [txt_ext, List.drop_zero, ← hb, bef_take]
      have hra : (txt l).extract (i + 1) (txt l).size = txt (aft 32 l) := by rw [txt_ext, hz, List.take_length, aft, hb]
      have hal : (aft 32 l).length ≤ l.length := by rw [aft, List.length_drop]; omega
      refine WP.skip ?_
      refine WP.seq ?_
      refine WP.region ?_
      refine RG.pv rfl (PV.mvS (.inl rfl) rfl) ?_
      refine RG.pv rfl (PV.mvI (.inl rfl) rfl) ?_
      refine RG.pv rfl (PV.slcS (h := i) rfl Tryd.underlying9 rfl optAt.n (optAt.s rfl (by omega)) (by omega) (by omega)) ?_
      refine RG.callF (vs := [_]) rfl rfl En15 rfl (number_s (l := bef 32 l) hbt (by omega) ?_)
      refine RG.pv rfl (PV.move (v := .tuple _) rfl rfl) ?_
      refine RG.pv rfl (PV.ext rfl rfl rfl) ?_
      refine RG.pv rfl (PV.ext rfl rfl rfl) ?_
      refine RG.pv rfl (PV.mvI (.inr rfl) rfl) ?_
      refine RG.pv rfl (PV.mvB (.inr rfl) rfl) ?_
      refine RG.nil ?_
      refine WP.seq ?_
      refine WP.seq ?_
      refine WP.region ?_
      refine RG.pv rfl (PV.mvB (.inl rfl) rfl) ?_
      refine RG.pv rfl (PV.not rfl rfl) ?_
      refine RG.pv rfl (PV.mvB (.inl rfl) rfl) ?_
      refine RG.gs rfl rfl rfl (fun hp => (PV.mvS (.inl rfl) rfl)) ?_
      refine RG.gs rfl rfl rfl (fun hp => (PV.mvI (.inl rfl) rfl)) ?_
      refine RG.gs rfl rfl rfl (fun hp => (PV.add rfl (gs_t hp) rfl (by first | omega | (simp at hp; omega)))) ?_
      refine RG.gs rfl rfl rfl (fun hp => (PV.slcS (l := i + 1) rfl Tryd.underlying9 (gs_t hp) (optAt.s (gs_t hp) (by first | omega | (simp at hp; omega))) optAt.n (by first | omega | (simp at hp; omega)) (by first | omega | (simp at hp; omega)))) ?_
      refine RG.gsC rfl rfl rfl rfl En16 (fun hp => ⟨_, (acons (gs_t hp) anil), l22Reason_s (by rw [hra, txt_size]; omega) ⟨rfl, rfl, rfl⟩⟩) ?_
      refine RG.gs rfl rfl rfl (fun hp => (PV.not rfl (gs_t hp))) ?_
      refine RG.pv rfl (PV.pickO rfl rfl rfl (fun hq => gs_t (geqF hq))) ?_
      refine RG.nil ?_
      rw [hra]
      refine WP.cond rfl (fun h3 => ?_) (fun h3 => ?_)
      · have hc : lineC out l = 4 := by
          have e : (numC (bef 32 l) && reason (txt (aft 32 l))) = false := by
            revert h3
            cases numC (bef 32 l) <;> cases reason (txt (aft 32 l)) <;> simp
          rw [lineC, e]; rfl
        have hnx : nxtW out l = [] := by rw [nxtW, if_neg (by rw [hc]; decide)]
        rw [hc, hnx] at k
        refine WP.seq ?_
        refine WP.region ?_
        refine RG.pv rfl (PV.asg rfl rfl) ?_
        refine RG.pv rfl (PV.mvI (.inr rfl) rfl) ?_
        refine RG.nil ?_
        refine WP.ret ?_
        exact ⟨_, _, ResV.two rfl rfl rfl, Cv.nilP, k (.slice none 0 0)⟩
      · have hgd : numC (bef 32 l) = true ∧ reason (txt (aft 32 l)) = true := by
          revert h3
          cases numC (bef 32 l) <;> cases reason (txt (aft 32 l)) <;> simp
        have hli := line_is (out := out) hgd.1 hgd.2
        have hnv : numV (bef 32 l) = (valD 0 (bef 32 l) : Int) := by rw [numV, hgd.1]; rfl
        refine WP.skip ?_
        refine WP.seq ?_
        refine WP.seq ?_
        refine WP.region ?_
        refine RG.pv rfl (PV.mvI (.inl rfl) rfl) ?_
        refine RG.pv rfl (PV.geq rfl rfl rfl) ?_
        refine RG.nil ?_
        rw [hnv]
        refine WP.cond rfl (fun h4 => ?_) (fun h4 => ?_)
        · have hc : lineC out l = 2 := by rw [hli, if_pos (by have := of_decide_eq_true h4; omega)]
          have hnx : nxtW out l = [] := by rw [nxtW, if_neg (by rw [hc]; decide)]
          rw [hc, hnx] at k
          refine WP.seq ?_
          refine WP.region ?_
          refine RG.pv rfl (PV.asg rfl rfl) ?_
          refine RG.pv rfl (PV.mvI (.inr rfl) rfl) ?_
          refine RG.nil ?_
          refine WP.ret ?_
          exact ⟨_, _, ResV.two rfl rfl rfl, Cv.nilP, k (.slice none 0 0)⟩
        · have h4 : ¬ 2147483646 < (valD 0 (bef 32 l) : Int) := by have := of_decide_eq_false h4; omega
          refine WP.skip ?_
          refine WP.seq ?_
          refine WP.seq ?_
          refine WP.region ?_
          refine RG.pv rfl (PV.move (v := v) rfl rfl) ?_
          refine RG.pv rfl (PV.len (v := v) rfl Tryd.underlying22 rfl SlF.o) ?_
          refine RG.pv rfl (PV.gtr rfl rfl rfl) ?_
          refine RG.pv rfl (PV.mvB (.inl rfl) rfl) ?_
          refine RG.gs rfl rfl rfl (fun hp => (PV.move (v := v) rfl rfl)) ?_
          refine RG.gs rfl rfl rfl (fun hp => (PV.move (v := v) rfl rfl)) ?_
          refine RG.gs rfl rfl rfl (fun hp => (PV.len (v := v) rfl Tryd.underlying22 (gs_t hp) SlF.o)) ?_
          refine RG.gs rfl rfl rfl (fun hp => (PV.sub rfl (gs_t hp) rfl (by first | omega | (simp at hp; omega)))) ?_
          refine RG.gs rfl rfl rfl (fun hp => (PV.idxS (j := (out.length - 1)) (v := v) rfl Is22 (gs_t hp) SlF.o (gs_t hp) (by first | omega | (simp at hp; omega)) (by first | omega | (simp at hp; omega)))) ?_
          refine RG.gs rfl rfl rfl (fun hp => (PV.field rfl Fo35_0 (gs_t hp))) ?_
          refine RG.gs rfl rfl rfl (fun hp => (PV.loadF rfl Sc2 (gs_t hp) rfl (El.o (getG (by first | omega | (simp at hp; omega)))) rfl)) ?_
          refine RG.gs rfl rfl rfl (fun hp => (PV.mvI (.inl rfl) rfl)) ?_
          refine RG.gs rfl rfl rfl (fun hp => (PV.geq rfl (gs_t hp) (gs_t hp))) ?_
          refine RG.pv rfl (PV.pickA rfl rfl (fun hq => gs_t (geqT hq)) rfl) ?_
          refine RG.nil ?_
          refine WP.cond rfl (fun h5 => ?_) (fun h5 => ?_)
          · have h5 : 0 < out.length ∧ (valD 0 (bef 32 l) : Int) ≤ (gd out (out.length - 1)).sig := by simp only [Bool.and_eq_true, decide_eq_true_eq] at h5; exact ⟨by omega, by omega⟩
            have hc : lineC out l = 6 := by rw [hli, if_neg h4, if_pos h5]
            have hnx : nxtW out l = [] := by rw [nxtW, if_neg (by rw [hc]; decide)]
            rw [hc, hnx] at k
            refine WP.seq ?_
            refine WP.region ?_
            refine RG.pv rfl (PV.asg rfl rfl) ?_
            refine RG.pv rfl (PV.mvI (.inr rfl) rfl) ?_
            refine RG.nil ?_
            refine WP.ret ?_
            exact ⟨_, _, ResV.two rfl rfl rfl, Cv.nilP, k (.slice none 0 0)⟩
          · have h5 : ¬ (0 < out.length ∧ (valD 0 (bef 32 l) : Int) ≤ (gd out (out.length - 1)).sig) := fun g => by
              simp only [Bool.and_eq_false_iff, decide_eq_false_iff_not] at h5; omega
            refine WP.skip ?_
            refine WP.seq ?_
            refine WP.seq ?_
            refine WP.region ?_
            refine RG.pv rfl (PV.move (v := v) rfl rfl) ?_
            refine RG.pv rfl (PV.len (v := v) rfl Tryd.underlying22 rfl SlF.o) ?_
            refine RG.pv rfl (PV.eql rfl rfl rfl) ?_
            refine RG.nil ?_
            refine WP.cond rfl (fun h6 => ?_) (fun h6 => ?_)
            · have hc : lineC out l = 3 := by rw [hli, if_neg h4, if_neg h5, if_pos (by have := of_decide_eq_true h6; omega)]
              have hnx : nxtW out l = [] := by rw [nxtW, if_neg (by rw [hc]; decide)]
              rw [hc, hnx] at k
              refine WP.seq ?_
              refine WP.region ?_
              refine RG.pv rfl (PV.asg rfl rfl) ?_
              refine RG.pv rfl (PV.mvI (.inr rfl) rfl) ?_
              refine RG.nil ?_
              refine WP.ret ?_
              exact ⟨_, _, ResV.two rfl rfl rfl, Cv.nilP, k (.slice none 0 0)⟩
            · have hc : lineC out l = 0 := by rw [hli, if_neg h4, if_neg h5, if_neg (by have := of_decide_eq_false h6; omega)]
              have hnx : nxtW out l = out ++ [lineW l] := by rw [nxtW, if_pos hc]
              rw [hc, hnx] at k
              refine WP.skip ?_
              refine WP.seq ?_
              refine WP.region ?_
              refine RG.pv rfl (PV.move (v := v) rfl rfl) ?_
              refine RG.pv rfl (PV.mvI (.inl rfl) rfl) ?_
              refine RG.pv rfl (PV.mvS (.inl rfl) rfl) ?_
              refine RG.pv rfl (PV.mvI (.inl rfl) rfl) ?_
              refine RG.pv rfl (PV.add rfl rfl rfl (by omega)) ?_
              refine RG.pv rfl (PV.slcS (l := i + 1) rfl Tryd.underlying9 rfl (optAt.s rfl (by omega)) optAt.n (by omega) (by omega)) ?_
              refine RG.pv rfl (PV.build (vs := [(0, [vi _]), (1, [.string _])]) (out := [_, _]) rfl Zr35 Pl35 ⟨rfl, (Cl.c rfl), ⟨rfl, (Cl.c rfl), trivial⟩⟩ rfl) ?_
              refine RG.ot rfl (OT.bslice (F := waiverT) (els := [⟨(valD 0 (bef 32 l) : Int), (txt l).extract (i + 1) (txt l).size⟩]) rfl El22 rfl (by decide) rfl (by decide) ⟨rfl, (Cl.c rfl), trivial⟩ fun v68 => ?_)
              refine RG.ot rfl (OT.append (v := v) (u := v68) (F := waiverT) rfl El22 rfl (by decide) rfl rfl Rs.o (OneL.c (fun _ => rfl)) rfl (by first | omega | (simp <;> omega)) fun v69 => ?_)
              refine RG.pv rfl (PV.asg (v := v69) rfl rfl) ?_
              refine RG.pv rfl (PV.mvI (.inr rfl) rfl) ?_
              refine RG.nil ?_
              refine WP.ret ?_
              have ew : (⟨(valD 0 (bef 32 l) : Int), (txt l).extract (i + 1) (txt l).size⟩ : Waiver) = lineW l := by rw [hra]; rfl
              exact ⟨_, _, ResV.two rfl rfl rfl, (Cv.p (C := osl 35 waiverT v69 (out ++ [⟨(valD 0 (bef 32 l) : Int), (txt l).extract (i + 1) (txt l).size⟩]) :: L)).trans (Cv.eqS (by rw [ew])), k v69⟩
end Go.Proofs.YtcdigjhhmhkffaaDoor
namespace Go.Proofs.YtcdigjhhmhkffaaDoor
set_option linter.unusedVariables false
set_option linter.unusedSimpArgs false
open Go
set_option maxRecDepth 20000
set_option maxHeartbeats 2000000
set_option linter.unusedSimpArgs false
variable {G : Gh} {L : List Ch} {R : Value → Gh → List Ch → Prop}
theorem gd_drop (s : List UInt8) (a j : Nat) : gd (s.drop a) j = gd s (a + j) := by unfold gd; rw [List.getElem?_drop]
theorem parse_r {s : List UInt8} (hs : s.length ≤ 1048576) (k : ∀ v', R (.tuple #[v', vi (pwF s).2.1, vi (pwF s).2.2]) G (osl 35 waiverT v' (pwF s).1 :: L)) : CallT Tryd.prog 4 #[.string (txt s)] G L R := by
  have hz : (txt s).size = s.length := txt_size s
  refine CallT.enter (args := _) Tryd.func4 rfl rfl (by kernel_rfl) rfl ?_
  refine WP.seq ?_
  refine WP.region ?_
  refine RG.pv rfl (PV.asg rfl rfl) ?_
  refine RG.pv rfl (PV.mvI (.inr rfl) rfl) ?_
  refine RG.pv rfl (PV.mvI (.inr rfl) rfl) ?_
  refine RG.nil ?_
  refine WP.seq ?_
  refine WP.region ?_
  refine RG.ot rfl (OT.bslice (F := waiverT) (els := []) rfl El22 rfl (by decide) rfl (by decide) trivial fun v11 => ?_)
  refine RG.pv rfl (PV.asg (v := v11) rfl rfl) ?_
  refine RG.nil ?_
  refine WP.seq ?_
  refine WP.region ?_
  refine RG.pv rfl (PV.mvI (.inr rfl) rfl) ?_
  refine RG.nil ?_
  refine WP.seq ?_
  refine WP.region ?_
  refine RG.pv rfl (PV.mvI (.inr rfl) rfl) ?_
  refine RG.nil ?_
  refine WP.seq ?_
  refine WP.block ?_
  refine WP.loop5 [0] (fun (a : Nat) (out : List Waiver) (f : Nat) (line : Int) (q : Value) => a ≤ s.length ∧ (s.drop a).length < f ∧ out.length ≤ 16 ∧ (1 ≤ line ∧ line ≤ 1 + a) ∧ pwR f out line (s.drop a) = pwF s) (fun (a : Nat) (out : List Waiver) (f : Nat) (line : Int) (q : Value) => [(6, vi a), (7, vi line), (5, q)]) (fun (a : Nat) (out : List Waiver) (f : Nat) (line : Int) (q : Value) => osl 35 waiverT q out :: L) (fun (a : Nat) (out : List Waiver) (f : Nat) (line : Int) (q : Value) => s.length - a) 0 [] (s.length + 1) 1 v11 ⟨by omega, by simp, by simp, by omega, rfl⟩ ⟨rfl, rfl, rfl, trivial⟩ Cv.p ?_
  rintro a out f line q τ ⟨ha, hf, ho, hl1, he⟩
  refine WP.seq ?_
  refine WP.seq ?_
  refine WP.region ?_
  refine RG.pv rfl (PV.mvI (.inl rfl) rfl) ?_
  refine RG.pv rfl (PV.mvS (.inl rfl) rfl) ?_
  refine RG.pv rfl (PV.lenS rfl Tryd.underlying9 rfl) ?_
  refine RG.pv rfl (PV.lss rfl rfl rfl) ?_
  refine RG.nil ?_
  have hdl : (s.drop a).length = s.length - a := List.length_drop
  refine WP.cond rfl (fun h1 => ?_) (fun h1 => ?_)
  · have h1 : a < s.length := by have := of_decide_eq_true h1; omega
    have hne : s.drop a ≠ [] := fun e => by rw [e] at hdl; simp at hdl; omega
    refine WP.skip ?_
    refine WP.block ?_
    refine WP.seq ?_
    refine WP.region ?_
    refine RG.pv rfl (PV.mvI (.inl rfl) rfl) ?_
    refine RG.pv rfl (PV.mvI (.inr rfl) rfl) ?_
    refine RG.nil ?_
    refine WP.seq ?_
    refine WP.block ?_
    refine WP.loop1 [0, 5, 6, 7] (fun e => a ≤ e ∧ e ≤ s.length ∧ ∀ j, a ≤ j → j < e → gd s j ≠ 10) (fun e => [(8, vi e)]) (fun e => osl 35 waiverT q out :: L) (fun e => s.length - e) a ⟨by omega, by omega, fun j h2 h3 => by omega⟩ ⟨rfl, trivial⟩ Cv.p ?_
    rintro e τ1 ⟨he1, he2, he3⟩
    refine WP.seq ?_
    refine WP.seq ?_
    refine WP.region ?_
    refine RG.pv rfl (PV.mvI (.inl rfl) rfl) ?_
    refine RG.pv rfl (PV.mvS (.inl rfl) rfl) ?_
    refine RG.pv rfl (PV.lenS rfl Tryd.underlying9 rfl) ?_
    refine RG.pv rfl (PV.lss rfl rfl rfl) ?_
    refine RG.pv rfl (PV.mvB (.inl rfl) rfl) ?_
    refine RG.gs rfl rfl rfl (fun hp => (PV.mvS (.inl rfl) rfl)) ?_
    refine RG.gs rfl rfl rfl (fun hp => (PV.mvI (.inl rfl) rfl)) ?_
    refine RG.gs rfl rfl rfl (fun hp => (PV.idxStr rfl Tryd.underlying9 (gs_t hp) (gs_t hp) rfl (getBG (by first | omega | (simp at hp; omega))))) ?_
    refine RG.gs rfl rfl rfl (fun hp => (PV.neq rfl (gs_t hp) rfl)) ?_
    refine RG.pv rfl (PV.pickA rfl rfl (fun hq => gs_t (geqT hq)) rfl) ?_
    refine RG.nil ?_
    have hbi := bt_txt s e
    refine WP.cond rfl (fun h2 => ?_) (fun h2 => ?_)
    · have h3 : e < s.length ∧ gd s e ≠ 10 := by
        rw [hbi] at h2
        simp [hz] at h2
        exact ⟨by omega, fun g => by have := (u8eq (n := 10) (by omega)).1 g; omega⟩
      refine WP.skip ?_
      refine WP.block ?_
      refine WP.region ?_
      refine RG.pv rfl (PV.mvI (.inl rfl) rfl) ?_
      refine RG.pv rfl (PV.add rfl rfl rfl (by omega)) ?_
      refine RG.pv rfl (PV.mvI (.inr rfl) rfl) ?_
      refine RG.nil ?_
      refine ⟨rfl, e + 1, ⟨by omega, by omega, fun j h4 h5 => ?_⟩, ⟨rfl, trivial⟩, ⟨rfl, rfl, rfl, rfl, trivial⟩, Cv.p, by omega⟩
      by_cases c : j = e
      · rw [c]; exact h3.2
      · exact he3 j h4 (by omega)
    · have hb : (bef 10 (s.drop a)).length = e - a := bef_at (by omega) (fun j hj => by rw [gd_drop]; exact he3 (a + j) (by omega) (by omega)) (by
        by_cases c : e = s.length
        · left; omega
        · right
          rw [gd_drop, show a + (e - a) = e by omega]
          rw [hbi] at h2
          have c2 : (e : Int) < s.length := by omega
          simp [hz, c2] at h2
          exact (u8eq (n := 10) (by omega)).2 (by omega))
      refine WP.exit ?_
      refine WP.seq ?_
      refine WP.seq ?_
      refine WP.region ?_
      refine RG.pv rfl (PV.mvI (.inl rfl) rfl) ?_
      refine RG.pv rfl (PV.mvS (.inl rfl) rfl) ?_
      refine RG.pv rfl (PV.lenS rfl Tryd.underlying9 rfl) ?_
      refine RG.pv rfl (PV.eql rfl rfl rfl) ?_
      refine RG.nil ?_
      refine WP.cond rfl (fun h3 => ?_) (fun h3 => ?_)
      · have h3 : e = s.length := by have := of_decide_eq_true h3; omega
        have g := he.symm.trans (pwR_end (by omega) hne (by omega))
        rw [g] at k
        refine WP.seq ?_
        refine WP.region ?_
        refine RG.pv rfl (PV.mvI (.inl rfl) rfl) ?_
        refine RG.pv rfl (PV.asg rfl rfl) ?_
        refine RG.pv rfl (PV.mvI (.inr rfl) rfl) ?_
        refine RG.pv rfl (PV.mvI (.inr rfl) rfl) ?_
        refine RG.nil ?_
        refine WP.ret ?_
        exact ⟨_, _, ResV.three rfl rfl rfl rfl, Cv.nilP, k (.slice none 0 0)⟩
      · have h3 : e < s.length := by have := of_decide_eq_false h3; omega
        have hen : (bef 10 (s.drop a)).length < (s.drop a).length := by omega
        have hsl : (txt s).extract a e = txt (bef 10 (s.drop a)) := by rw [txt_ext, List.drop_take, ← hb, bef_take]
        have haf : aft 10 (s.drop a) = s.drop (e + 1) := by rw [aft, List.drop_drop, hb]; congr 1; omega
        have hal := aft_len hen
        refine WP.skip ?_
        refine WP.seq ?_
        refine WP.region ?_
        refine RG.pv rfl (PV.move (v := q) rfl rfl) ?_
        refine RG.pv rfl (PV.mvS (.inl rfl) rfl) ?_
        refine RG.pv rfl (PV.mvI (.inl rfl) rfl) ?_
        refine RG.pv rfl (PV.mvI (.inl rfl) rfl) ?_
        refine RG.pv rfl (PV.slcS (l := a) (h := e) rfl Tryd.underlying9 rfl (optAt.s rfl (by omega)) (optAt.s rfl (by omega)) (by omega) (by omega)) ?_
        refine RG.callF (vs := [q, _]) rfl rfl En9 rfl (CallT.exS q (line_r (l := bef 10 (s.drop a)) hsl (by omega) ho (fun w40 => ?_)))
        refine RG.pv rfl (PV.move (v := .tuple _) rfl rfl) ?_
        refine RG.pv rfl (PV.ext (v := w40) rfl rfl rfl) ?_
        refine RG.pv rfl (PV.ext rfl rfl rfl) ?_
        refine RG.pv rfl (PV.asg (v := w40) rfl rfl) ?_
        refine RG.pv rfl (PV.mvI (.inr rfl) rfl) ?_
        refine RG.nil ?_
        refine WP.seq ?_
        refine WP.seq ?_
        refine WP.region ?_
        refine RG.pv rfl (PV.mvI (.inl rfl) rfl) ?_
        refine RG.pv rfl (PV.neq rfl rfl rfl) ?_
        refine RG.nil ?_
        refine WP.cond rfl (fun h4 => ?_) (fun h4 => ?_)
        · have hc : lineC out (bef 10 (s.drop a)) ≠ 0 := by simpa using h4
          have g := he.symm.trans (pwR_bad (by omega) hne hen hc)
          rw [g] at k
          refine WP.seq ?_
          refine WP.region ?_
          refine RG.pv rfl (PV.mvI (.inl rfl) rfl) ?_
          refine RG.pv rfl (PV.mvI (.inl rfl) rfl) ?_
          refine RG.pv rfl (PV.asg rfl rfl) ?_
          refine RG.pv rfl (PV.mvI (.inr rfl) rfl) ?_
          refine RG.pv rfl (PV.mvI (.inr rfl) rfl) ?_
          refine RG.nil ?_
          refine WP.ret ?_
          exact ⟨_, _, ResV.three rfl rfl rfl rfl, Cv.nilP, k (.slice none 0 0)⟩
        · have hc : lineC out (bef 10 (s.drop a)) = 0 := by simpa using h4
          have hll := (lineC_0 hc).2.2.2
          have g := pwR_next (f := f) (line := line) (by omega) hne hen hc
          rw [haf] at g
          have hnx : nxtW out (bef 10 (s.drop a)) = out ++ [lineW (bef 10 (s.drop a))] := by rw [nxtW, if_pos hc]
          rw [hnx]
          refine WP.skip ?_
          refine WP.seq ?_
          refine WP.region ?_
          refine RG.pv rfl (PV.move (v := w40) rfl rfl) ?_
          refine RG.pv rfl (PV.asg (v := w40) rfl rfl) ?_
          refine RG.nil ?_
          refine WP.seq ?_
          refine WP.region ?_
          refine RG.pv rfl (PV.mvI (.inl rfl) rfl) ?_
          refine RG.pv rfl (PV.add rfl rfl rfl (by omega)) ?_
          refine RG.pv rfl (PV.mvI (.inr rfl) rfl) ?_
          refine RG.nil ?_
          refine WP.region ?_
          refine RG.pv rfl (PV.mvI (.inl rfl) rfl) ?_
          refine RG.pv rfl (PV.add rfl rfl rfl (by omega)) ?_
          refine RG.pv rfl (PV.mvI (.inr rfl) rfl) ?_
          refine RG.nil ?_
          exact ⟨rfl, e + 1, (out ++ [lineW (bef 10 (s.drop a))]), (f - 1), (line + 1), w40, ⟨by omega, by rw [List.length_drop]; omega, by simp; omega, by omega, g.symm.trans he⟩, ⟨rfl, rfl, rfl, trivial⟩, ⟨rfl, trivial⟩, Cv.p, by omega⟩
  · have h1 : a = s.length := by have := of_decide_eq_false h1; omega
    subst h1
    rw [List.drop_length, pwR_nil] at he
    rw [← he] at k
    refine WP.exit ?_
    refine WP.seq ?_
    refine WP.region ?_
    refine RG.pv rfl (PV.move (v := q) rfl rfl) ?_
    refine RG.pv rfl (PV.asg (v := q) rfl rfl) ?_
    refine RG.pv rfl (PV.mvI (.inr rfl) rfl) ?_
    refine RG.pv rfl (PV.mvI (.inr rfl) rfl) ?_
    refine RG.nil ?_
    refine WP.ret ?_
    exact ⟨_, _, ResV.three rfl rfl rfl rfl, Cv.p, k q⟩
theorem pwR_out : ∀ (f : Nat) (out : List Waiver) (line : Int) (l : List UInt8), out.length ≤ 16 → (pwR f out line l).1.length ≤ 16
  | 0, out, _, _, h => h
  | f + 1, out, line, l, h => by
    rw [pwR]
    split
    · exact h
    · split
      · split
        · next hc =>
          have h2 := (lineC_0 hc).2.2.2
          exact pwR_out f _ _ _ (by simp; omega)
        · exact Nat.zero_le _
      · exact Nat.zero_le _
theorem pwF_len (s : List UInt8) : (pwF s).1.length ≤ 16 := pwR_out _ _ _ _ (by simp)
theorem pwF_cost (s : List UInt8) : costL nW (pwF s).1 ≤ 32 := by rw [nW_cost]; have := pwF_len s; omega
theorem law_ParseWaivers {s : List UInt8} (hL : Lp G) (hs0 : s.length ≤ 9223372036854775807) (k : R (.bool true) G L) : CallT Tryd.prog 3 #[.string (txt s)] G L R := by
  have hz : (txt s).size = s.length := txt_size s
  refine CallT.enter (args := _) Tryd.func3 rfl rfl (by kernel_rfl) rfl ?_
  refine WP.seq ?_
  refine WP.region ?_
  refine RG.pv rfl (PV.mvB (.inr rfl) rfl) ?_
  refine RG.nil ?_
  refine WP.seq ?_
  refine WP.seq ?_
  refine WP.region ?_
  refine RG.pv rfl (PV.mvS (.inl rfl) rfl) ?_
  refine RG.pv rfl (PV.lenS rfl Tryd.underlying9 rfl) ?_
  refine RG.pv rfl (PV.gtr rfl rfl rfl) ?_
  refine RG.nil ?_
  refine WP.cond rfl (fun h1 => ?_) (fun h1 => ?_)
  · refine WP.seq ?_
    refine WP.region ?_
    refine RG.pv rfl (PV.mvB (.inr rfl) rfl) ?_
    refine RG.nil ?_
    refine WP.ret ?_
    exact ⟨_, _, ResV.one rfl rfl, Cv.p, k⟩
  · have hs : s.length ≤ 1048576 := by have := of_decide_eq_false h1; omega
    have hcr := pwF_cost s
    have hcn : 0 ≤ costL nW (pwF s).1 := by rw [nW_cost]; omega
    refine WP.skip ?_
    refine WP.seq ?_
    refine WP.region ?_
    refine RG.pv rfl (PV.mvS (.inl rfl) rfl) ?_
    refine RG.callF (vs := [_]) rfl rfl En4 rfl (parse_r hs (fun w19 => ?_))
    refine RG.pv rfl (PV.move (v := .tuple _) rfl rfl) ?_
    refine RG.pv rfl (PV.ext (v := w19) rfl rfl rfl) ?_
    refine RG.pv rfl (PV.ext rfl rfl rfl) ?_
    refine RG.pv rfl (PV.ext rfl rfl rfl) ?_
    refine RG.pv rfl (PV.asg (v := w19) rfl rfl) ?_
    refine RG.pv rfl (PV.mvI (.inr rfl) rfl) ?_
    refine RG.pv rfl (PV.mvI (.inr rfl) rfl) ?_
    refine RG.nil ?_
    refine WP.seq ?_
    refine WP.region ?_
    refine RG.pv rfl (PV.mvS (.inl rfl) rfl) ?_
    refine RG.callF (vs := [_]) rfl rfl En5 rfl (parse_i hL hs (fun w25 => ?_))
    refine RG.pv rfl (PV.move (v := .tuple _) rfl rfl) ?_
    refine RG.pv rfl (PV.ext (v := w25) rfl rfl rfl) ?_
    refine RG.pv rfl (PV.ext rfl rfl rfl) ?_
    refine RG.pv rfl (PV.ext rfl rfl rfl) ?_
    refine RG.pv rfl (PV.asg (v := w25) rfl rfl) ?_
    refine RG.pv rfl (PV.mvI (.inr rfl) rfl) ?_
    refine RG.pv rfl (PV.mvI (.inr rfl) rfl) ?_
    refine RG.nil ?_
    refine WP.seq ?_
    refine WP.seq ?_
    refine WP.region ?_
    refine RG.pv rfl (PV.move (v := w25) rfl rfl) ?_
    refine RG.pv rfl (PV.move (v := w19) rfl rfl) ?_
    refine RG.callF (vs := [w25, w19]) rfl rfl En6 rfl (eqWaiverS_s Rs.o Rs.o ?_)
    refine RG.pv rfl (PV.not rfl rfl) ?_
    refine RG.pv rfl (PV.mvB (.inl rfl) rfl) ?_
    refine RG.gs rfl rfl rfl (fun hp => (PV.mvI (.inl rfl) rfl)) ?_
    refine RG.gs rfl rfl rfl (fun hp => (PV.mvI (.inl rfl) rfl)) ?_
    refine RG.gs rfl rfl rfl (fun hp => (PV.neq rfl (gs_t hp) (gs_t hp))) ?_
    refine RG.pv rfl (PV.pickO rfl rfl rfl (fun hq => gs_t (geqF hq))) ?_
    refine RG.pv rfl (PV.mvB (.inl rfl) rfl) ?_
    refine RG.gs rfl rfl rfl (fun hp => (PV.mvI (.inl rfl) rfl)) ?_
    refine RG.gs rfl rfl rfl (fun hp => (PV.mvI (.inl rfl) rfl)) ?_
    refine RG.gs rfl rfl rfl (fun hp => (PV.neq rfl (gs_t hp) (gs_t hp))) ?_
    refine RG.pv rfl (PV.pickO rfl rfl rfl (fun hq => gs_t (geqF hq))) ?_
    refine RG.nil ?_
    refine WP.cond rfl (fun h2 => ?_) (fun h2 => ?_)
    · simp at h2
    · skip
      refine WP.skip ?_
      refine WP.seq ?_
      refine WP.region ?_
      refine RG.pv rfl (PV.mvI (.inr rfl) rfl) ?_
      refine RG.nil ?_
      refine WP.seq ?_
      refine WP.region ?_
      refine RG.pv rfl (PV.move (v := w25) rfl rfl) ?_
      refine RG.pv rfl (PV.mvI (.inl rfl) rfl) ?_
      refine RG.callF (vs := [w25, _]) rfl rfl En7 rfl (CallT.exS w25 (markWaiverS_s (by omega) (by omega) ?_))
      refine RG.pv rfl (PV.mvI (.inr rfl) rfl) ?_
      refine RG.nil ?_
      refine WP.seq ?_
      refine WP.region ?_
      refine RG.pv rfl (PV.mvI (.inr rfl) rfl) ?_
      refine RG.nil ?_
      refine WP.seq ?_
      refine WP.region ?_
      refine RG.pv rfl (PV.move (v := w25) rfl rfl) ?_
      refine RG.pv rfl (PV.mvI (.inl rfl) rfl) ?_
      refine RG.callF (vs := [w25, _]) rfl rfl En8 rfl (heldWaiverS_s Rs.o (by omega) (by omega) ?_)
      refine RG.pv rfl (PV.mvI (.inr rfl) rfl) ?_
      refine RG.nil ?_
      refine WP.seq ?_
      refine WP.seq ?_
      refine WP.region ?_
      refine RG.pv rfl (PV.mvI (.inl rfl) rfl) ?_
      refine RG.pv rfl (PV.lss rfl rfl rfl) ?_
      refine RG.nil ?_
      refine WP.cond rfl (fun h3 => ?_) (fun h3 => ?_)
      · simp at h3; omega
      · refine WP.skip ?_
        refine WP.seq ?_
        refine WP.seq ?_
        refine WP.region ?_
        refine RG.pv rfl (PV.mvI (.inl rfl) rfl) ?_
        refine RG.pv rfl (PV.mvI (.inl rfl) rfl) ?_
        refine RG.pv rfl (PV.neq rfl rfl rfl) ?_
        refine RG.nil ?_
        refine WP.cond rfl (fun h4 => ?_) (fun h4 => ?_)
        · simp at h4
        · refine WP.skip ?_
          refine WP.seq ?_
          refine WP.region ?_
          refine RG.pv rfl (PV.mvS (.inl rfl) rfl) ?_
          refine RG.callF (vs := [_]) rfl rfl En5 rfl (parse_i hL hs (fun w56 => ?_))
          refine RG.pv rfl (PV.move (v := .tuple _) rfl rfl) ?_
          refine RG.pv rfl (PV.ext (v := w56) rfl rfl rfl) ?_
          refine RG.pv rfl (PV.ext rfl rfl rfl) ?_
          refine RG.pv rfl (PV.ext rfl rfl rfl) ?_
          refine RG.pv rfl (PV.asg (v := w56) rfl rfl) ?_
          refine RG.pv rfl (PV.mvI (.inr rfl) rfl) ?_
          refine RG.pv rfl (PV.mvI (.inr rfl) rfl) ?_
          refine RG.nil ?_
          refine WP.seq ?_
          refine WP.seq ?_
          refine WP.region ?_
          refine RG.pv rfl (PV.move (v := w56) rfl rfl) ?_
          refine RG.pv rfl (PV.move (v := w19) rfl rfl) ?_
          refine RG.callF (vs := [w56, w19]) rfl rfl En6 rfl (eqWaiverS_s Rs.o Rs.o ?_)
          refine RG.pv rfl (PV.not rfl rfl) ?_
          refine RG.pv rfl (PV.mvB (.inl rfl) rfl) ?_
          refine RG.gs rfl rfl rfl (fun hp => (PV.mvI (.inl rfl) rfl)) ?_
          refine RG.gs rfl rfl rfl (fun hp => (PV.mvI (.inl rfl) rfl)) ?_
          refine RG.gs rfl rfl rfl (fun hp => (PV.neq rfl (gs_t hp) (gs_t hp))) ?_
          refine RG.pv rfl (PV.pickO rfl rfl rfl (fun hq => gs_t (geqF hq))) ?_
          refine RG.pv rfl (PV.mvB (.inl rfl) rfl) ?_
          refine RG.gs rfl rfl rfl (fun hp => (PV.mvI (.inl rfl) rfl)) ?_
          refine RG.gs rfl rfl rfl (fun hp => (PV.mvI (.inl rfl) rfl)) ?_
          refine RG.gs rfl rfl rfl (fun hp => (PV.neq rfl (gs_t hp) (gs_t hp))) ?_
          refine RG.pv rfl (PV.pickO rfl rfl rfl (fun hq => gs_t (geqF hq))) ?_
          refine RG.nil ?_
          refine WP.cond rfl (fun h5 => ?_) (fun h5 => ?_)
          · simp at h5
          · skip
            refine WP.skip ?_
            refine WP.seq ?_
            refine WP.region ?_
            refine RG.pv rfl (PV.mvI (.inr rfl) rfl) ?_
            refine RG.nil ?_
            refine WP.seq ?_
            refine WP.region ?_
            refine RG.pv rfl (PV.move (v := w25) rfl rfl) ?_
            refine RG.pv rfl (PV.mvI (.inl rfl) rfl) ?_
            refine RG.callF (vs := [w25, _]) rfl rfl En8 rfl (heldWaiverS_s Rs.o (by omega) (by omega) ?_)
            refine RG.pv rfl (PV.mvI (.inr rfl) rfl) ?_
            refine RG.nil ?_
            refine WP.seq ?_
            refine WP.seq ?_
            refine WP.region ?_
            refine RG.pv rfl (PV.mvI (.inl rfl) rfl) ?_
            refine RG.pv rfl (PV.lss rfl rfl rfl) ?_
            refine RG.nil ?_
            refine WP.cond rfl (fun h6 => ?_) (fun h6 => ?_)
            · simp at h6; omega
            · refine WP.skip ?_
              refine WP.seq ?_
              refine WP.seq ?_
              refine WP.region ?_
              refine RG.pv rfl (PV.mvI (.inl rfl) rfl) ?_
              refine RG.pv rfl (PV.mvI (.inl rfl) rfl) ?_
              refine RG.pv rfl (PV.neq rfl rfl rfl) ?_
              refine RG.nil ?_
              refine WP.cond rfl (fun h7 => ?_) (fun h7 => ?_)
              · simp at h7
              · refine WP.skip ?_
                refine WP.seq ?_
                refine WP.region ?_
                refine RG.pv rfl (PV.mvB (.inr rfl) rfl) ?_
                refine RG.nil ?_
                refine WP.ret ?_
                exact ⟨_, _, ResV.one rfl rfl, Cv.p, k⟩
end Go.Proofs.YtcdigjhhmhkffaaDoor
namespace Go.Proofs.YtcdigjhhmhkffaaDoor
set_option linter.unusedVariables false
set_option linter.unusedSimpArgs false
open Go Go.ChangeShapes Go.WideShapes Go.ChangeAt Go.RowKit Go.Deep
set_option linter.unusedVariables false
set_option linter.unusedSimpArgs false
theorem law_laid2 {H : Type} {enc : TypeId × Value → H} {C : Checked} {os : Os} {f : FuncId} {fn : Func} {s : ChangeSpec} {tb : TypeId} {X : World → Array Value → Prop} (hX : ∀ (w w' : World) (args : Array Value), w.heap = w'.heap → X w args → X w' args)
    (own : ownKnob C.prog.godebug = none) (started : os.Started) (noInit : C.prog.inits.idxOf? f = none) (hfn : C.prog.funcs[f]? = some fn) (hl : laidOutB C.prog = true)
    (hvars : s.vars = []) (hr : recsB C.prog fn.params.toList = true) (hres : fn.resultTypes = #[tb]) (htb : C.prog.underlying tb = some .bool)
    (hsp : ∀ ds : List (DataW H), ds.length = fn.params.toList.length → s.fn H ds = { results := [.lit (.bool true)], args := ds })
    (witness : ∃ (w : World) (tape : Tape) (i : Input), w.os = os ∧ (w.forCall tape i).Shaped C.prog ∧ i.vars = [] ∧ Input.okWide C.prog (w.forCall tape i) .any w.heap.size f i ∧
      ((s.pre enc C.prog fn [] false (w.forCall tape i).memory i.args ∧ X (w.forCall tape i).memory i.args) ∧ sizedMet enc C.prog fn (OpenSpec.ofChange s) false (w.forCall tape i).memory i.args) ∧ ({} : Assume).holds C.prog (lone (Frame.enter C.prog f i.args .normal) [] (w.forCall tape i)))
    (walk : ∀ (W : World) (base : Nat) (args : Array Value) (ds : List (DataW H)) (ps : List MemPlace), (∀ (j : Nat) t v, fn.params[j]? = some t → args[j]? = some v → Value.okWide C.prog W .any base t v) →
      DataW.TrodAll enc C.prog W 0 (fun _ => true) true fn.params.toList args.toList ds ps → X W args → W.ShapedOpen C.prog → CallT C.prog f args (G0 W) [] fun v G _ => v = .bool true ∧ Gh.le (G0 W) G) :
    ReturnsInHanded {} C os f .any (fun w args => (s.pre enc C.prog fn [] false w args ∧ X w args) ∧ sizedMet enc C.prog fn (OpenSpec.ofChange s) false w args) (s.post enc C.prog fn false true false false) := by
  refine returnsInHanded_of_calls own started noInit witness ?_
  intro w tape i _ hsh _ hok hpre hholds
  obtain ⟨_, _, _, fn', hfn', _, _, _, _, hval⟩ := hok
  have e : fn' = fn := Option.some.inj (hfn'.symm.trans hfn)
  subst e
  obtain ⟨⟨⟨ds, gs, before, hw, hc⟩, hx⟩, hz⟩ := hpre
  have hW0 := DataW.Whole.of_heap (w' := w.forCall tape i) (by rfl) hw
  have hXW : X (w.forCall tape i) i.args := hX _ _ _ (by rfl) hx
  suffices hS : Calls C.prog f i.args (w.forCall tape i) fun e W' => ∃ v, e = .returned v ∧ s.post enc C.prog fn' false true false false (w.forCall tape i) i.args v W' by
    refine hS.mono fun e W' ⟨v, he, hp⟩ => ?_
    subst he
    exact ChangeSpec.post_blind hp
  generalize w.forCall tape i = W at *
  generalize i.args = args at *
  have hW' := hW0
  obtain ⟨p, q, hA, hV, rfl, hfz, hnd⟩ := hW0
  rw [hvars] at hV
  obtain ⟨rfl, rfl⟩ := trodVars_none hV
  refine ((walk W _ args ds p hval hA hXW hsh).run (St.start0 W)).mono ?_
  rintro e W' ⟨v, G, L, rfl, hs, rfl, hG⟩
  have hb := hs.below0 hG
  have hlt : ∀ x ∈ p, x.block < W.heap.size := fun x hx => hW'.lt x (List.mem_append_left _ hx)
  have hlen : ds.length = fn'.params.toList.length := by
    have : ∀ (ts : List TypeId) (vs : List Value) (ds : List (DataW H)) (ps : List MemPlace), DataW.TrodAll enc C.prog W 0 (fun _ => true) true ts vs ds ps → ds.length = ts.length := by
      intro ts
      induction ts with
      | nil => intro vs ds ps h; cases vs <;> cases ds <;> simp_all [DataW.TrodAll]
      | cons t ts ih =>
        intro vs ds ps h
        cases vs <;> cases ds <;> simp only [DataW.TrodAll] at h
        obtain ⟨_, _, _, h2, _⟩ := h
        simp [ih _ _ _ h2]
    exact this _ _ _ _ hA
  refine ⟨_, rfl, ds, [], _, [], p, [], hW', ?_, ?_, ?_, hb.frame _, fun h => by cases h⟩
  · rw [List.append_nil, hsp ds hlen, hres]
    exact trodAll_mk1 (shut_bool htb true)
  · rw [List.append_nil, hsp ds hlen]
    exact trodAll_stays hl hb (recs_of hr) hlt hA
  · rw [List.append_nil, hsp ds hlen, hvars]
    exact rfl
end Go.Proofs.YtcdigjhhmhkffaaDoor
namespace Go.Proofs.YtcdigjhhmhkffaaDoor
set_option linter.unusedVariables false
set_option linter.unusedSimpArgs false
open Go Go.Shelf
def cutM_ren : Go.Shelf.Ren := ⟨fun | 145 => 10 | 220 => 17 | 219 => 20 | 217 => 24 | 225 => 25 | 224 => 26 | 267 => 27 | 266 => 34 | 314 => 35 | n => n, fun | 9 => 9 | 4 => 4 | 59 => 30 | 3 => 3 | 5 => 5 | 46 => 49 | 146 => 58 | 51 => 57 | n => n, fun | 1 => 0 | n => n⟩
theorem cutM : Go.Proofs.LaysM.n145 Tryd.prog cutM_ren := {
  mixed := by kernel_rfl
  f145 := Tryd.func10.trans (congrArg some (by kernel_rfl))
  f217 := Tryd.func24.trans (congrArg some (by kernel_rfl))
  f219 := Tryd.func20.trans (congrArg some (by kernel_rfl))
  f220 := Tryd.func17.trans (congrArg some (by kernel_rfl))
  f224 := Tryd.func26.trans (congrArg some (by kernel_rfl))
  f225 := Tryd.func25.trans (congrArg some (by kernel_rfl))
  f266 := Tryd.func34.trans (congrArg some (by kernel_rfl))
  f267 := Tryd.func27.trans (congrArg some (by kernel_rfl))
  f314 := Tryd.func35.trans (congrArg some (by kernel_rfl))
  t3 := Tryd.underlying3
  a3 := Tryd.isAgg3
  z3 := Tryd.sizeOf3
  v3 := Tryd.zeroValue3
  t4 := Tryd.underlying4
  a4 := Tryd.isAgg4
  z4 := Tryd.sizeOf4
  v4 := Tryd.zeroValue4
  t5 := Tryd.underlying5
  a5 := Tryd.isAgg5
  z5 := Tryd.sizeOf5
  v5 := Tryd.zeroValue5
  t9 := Tryd.underlying9
  a9 := Tryd.isAgg9
  z9 := Tryd.sizeOf9
  v9 := Tryd.zeroValue9
  t46 := Tryd.underlying49
  a46 := Tryd.isAgg49
  z46 := Tryd.sizeOf49
  v46 := Tryd.zeroValue49
  t51 := Tryd.underlying57
  a51 := Tryd.isAgg57
  z51 := Tryd.sizeOf57
  v51 := Tryd.zeroValue57
  t59 := Tryd.underlying30
  a59 := Tryd.isAgg30
  z59 := Tryd.sizeOf30
  v59 := Tryd.zeroValue30
  t146 := Tryd.underlying58
  a146 := Tryd.isAgg58
  z146 := Tryd.sizeOf58
  v146 := Tryd.zeroValue58
  g1 := by kernel_rfl
  i3 := by kernel_rfl
  i4 := by kernel_rfl
  i5 := by kernel_rfl
  i9 := by kernel_rfl
  i46 := by kernel_rfl
  i51 := by kernel_rfl
  i59 := by kernel_rfl
  i146 := by kernel_rfl
  m1 := by kernel_rfl
  s1_3 := fun w h => Go.Proofs.cell_of_shapedOpen_int (zero := #[.int .i64 0]) (t := 3) h (of_decide_eq_true (by kernel_rfl)) (by kernel_rfl) rfl (by kernel_rfl) (by kernel_rfl) Tryd.underlying3 }
end Go.Proofs.YtcdigjhhmhkffaaDoor
namespace Go.Proofs.YtcdigjhhmhkffaaDoor
set_option linter.unusedVariables false
set_option linter.unusedSimpArgs false
open Go Go.ChangeShapes Go.WideShapes Go.ChangeAt Go.RowKit
set_option linter.unusedSimpArgs false
set_option maxRecDepth 100000
theorem Tryd.own : ownKnob Tryd.prog.godebug = none := by kernel_rfl
theorem Tryd.laidOut : laidOutB Tryd.prog = true := by kernel_rfl
def laidP : List (String × DataW Unit) := [("math/bits.deBruijn32tab", Rows.laid_math_bits_deBruijn32tab), ("math/bits.deBruijn64tab", Rows.laid_math_bits_deBruijn64tab), ("internal/strconv.uint64pow10", Rows.laid_internal_strconv_uint64pow10), ("strconv.ErrRange", Rows.laid_strconv_ErrRange), ("strconv.ErrSyntax", Rows.laid_strconv_ErrSyntax)]
theorem gPow : Tryd.prog.globalNamed "internal/strconv.uint64pow10" = some 3 := by kernel_rfl
theorem tPow : (Tryd.prog.globals[3]?).map (·.type) = some 75 := by kernel_rfl
theorem gSyn : Tryd.prog.globalNamed "strconv.ErrSyntax" = some 1 := by kernel_rfl
theorem tSyn : (Tryd.prog.globals[1]?).map (·.type) = some 39 := by kernel_rfl
theorem gRan : Tryd.prog.globalNamed "strconv.ErrRange" = some 2 := by kernel_rfl
theorem tRan : (Tryd.prog.globals[2]?).map (·.type) = some 39 := by kernel_rfl
theorem starE : "*" ++ "errors.errorString" = "*errors.errorString" := by decide
theorem rowE (u : TypeId) (h : Tryd.prog.typeName? 3 u = some "*errors.errorString") : u = 71 :=
  typeName_ptr_named (nm := "errors.errorString") (by rw [starE]; kernel_rfl) (by kernel_rfl) (by decide) u (by rw [starE]; exact h)
theorem cellsE : Tryd.prog.cellsOf 73 = 1 := by kernel_rfl
theorem cellsS : Tryd.prog.cellsOf 9 = 1 := by kernel_rfl
theorem lp_of {W : World} (h : laidMetH Tryd.prog laidP W) (hsh : W.ShapedOpen Tryd.prog) : Lp (G0 W) := by
  rw [MakeChecks.laidMetH_plain _ _ _ (by kernel_rfl)] at h
  have e : (Rows.laid_internal_strconv_uint64pow10 : DataW Unit) = Go.Lib.tabData .u64 Go.Lib.pow10Tab := by rfl
  have h2 := h.tail.tail
  have h4 := h2.tail
  rw [e] at h2
  have h3 := Go.Lib.tabIs_of_head gPow tPow Tryd.underlying75 Tryd.underlying51 (by kernel_rfl) (by kernel_rfl) h2
  obtain ⟨a0, sa, hva, -, -, -⟩ := laid_sentinel h4 gRan tRan Tryd.underlying39 rowE Tryd.underlying71 Tryd.underlying73 rfl rfl Tryd.underlying9 cellsE cellsS
  obtain ⟨b0, sb, hvb, -, -, -⟩ := laid_sentinel h4.tail gSyn tSyn Tryd.underlying39 rowE Tryd.underlying71 Tryd.underlying73 rfl rfl Tryd.underlying9 cellsE cellsS
  obtain ⟨m, hm⟩ := cutM.s1_3 W hsh
  refine ⟨⟨rfl, fun L w hs => var_later h3 hs⟩, fun L w hs => ⟨m, ?_⟩, fun L w hs => ⟨_, _, var_later hvb hs⟩, fun L w hs => ⟨_, _, var_later hva hs⟩⟩
  have hb := hs.below0 (Gh.le_refl _)
  have hlt : (cutM_ren.g 1) < W.heap.size := Go.Lib.lt_of_cell hm
  exact (hb.cell (p := ⟨cutM_ren.g 1, 0, none⟩) hlt).trans hm
theorem parseWaivers_met (os : Os) (args : Array Value) : laidMetH Tryd.prog laidP ((World.doorLaid Tryd.prog 400 os).forCall (fun _ _ => 0) ⟨#[], args, []⟩).memory :=
  laidMetH_of_parts3 (fuel := 8) (laidMet_of_run' 8 (by kernel_rfl) (by kernel_rfl)) (by kernel_rfl) (by kernel_rfl)
theorem parseWaivers_lifted (os : Os) (started : os.Started) (H : Type) (enc : TypeId × Value → H) :
    ReturnsInHanded {} Tryd.checked os 3 .any (fun w args => (Rows.fnExactParseWaiversSpec.pre enc Tryd.prog Tryd.f3 [] false w args ∧ laidMetH Tryd.prog laidP w) ∧ sizedMet enc Tryd.prog Tryd.f3 (OpenSpec.ofChange Rows.fnExactParseWaiversSpec) false w args) (Rows.fnExactParseWaiversSpec.post enc Tryd.prog Tryd.f3 false true false false) := by
  refine law_laid2 (C := Tryd.checked) (X := fun w _ => laidMetH Tryd.prog laidP w) (fun _ _ _ hh h => h.of_heap hh) Tryd.own started (by kernel_rfl) Tryd.func3 Tryd.laidOut rfl (by kernel_rfl) rfl Tryd.underlying4 (fun ds h => ?_)
    (ChangeSpec.witness_shaped (enc := enc) (C := Tryd.checked) (os := os) (X := fun w _ => laidMetH Tryd.prog laidP w) false (World.doorLaid Tryd.prog 400 os) #[.string (ByteArray.mk #[])] 8 rfl (World.shaped_of_RefB (by kernel_rfl) (by kernel_rfl)) (by kernel_rfl) (by kernel_rfl) (by kernel_rfl) (parseWaivers_met os _)) ?_
  · match ds, h with
    | [d], _ => rfl
  · intro W base args ds ps hval hA hLd hsh
    have hA : DataW.TrodAll enc Tryd.prog W 0 (fun _ => true) true Tryd.f3.params.toList args.toList ds ps := hA
    have hval : ∀ (j : Nat) t v, Tryd.f3.params[j]? = some t → args[j]? = some v → Value.okWide Tryd.prog W .any base t v := hval
    rw [Tryd.params3] at hA hval
    obtain ⟨v0, d0, rfl, rfl, h0⟩ := trodAll_one hA
    obtain ⟨s, rfl, hs⟩ := argS Tryd.underlying9 (hval 0 _ v0 rfl rfl) h0
    have e : s = txt s.data.toList := (txt_of s).symm
    rw [e]
    exact law_ParseWaivers (lp_of hLd hsh) (by have hz := txt_size s.data.toList; rw [← e] at hz; have hs : s.size ≤ 9223372036854775807 := hs; omega) ⟨rfl, Gh.le_refl _⟩
theorem parseWaivers_said : Rows.FnExactParseWaiversSaid :=
  OpenClaim.holds_of_wide 3 Tryd.f3 rfl rfl rfl rfl rfl rfl rfl ⟨rfl, rfl, rfl, rfl, rfl⟩ rfl rfl rfl rfl rfl (by kernel_rfl) Tryd.func3 (by kernel_rfl)
    (of_decide_eq_true (by kernel_rfl)) (by unfold Func.isWrapper; first | (rw [if_pos (by decide +kernel)]; kernel_rfl) | (rw [if_neg (by decide +kernel)]; exact ⟨rfl, rfl⟩))
    (fun os started H enc _ => parseWaivers_lifted os started H enc)
theorem parseWaivers_holds : Rows.FnExactParseWaiversCardSaid :=
  Claim7.holds_tied_plain_at .later [] [.data, .data, .data, .sentinel, .sentinel] true (true, "d324dbc4d932fc6f979d84ab6ad8b1eb0b15bb1b23ad2394dc732fae3e8bab26") true
    parseWaivers_said (fun _ h => by cases h) (by kernel_rfl) (fun _ h => by cases h) fnExactParseWaivers_row_tie rfl ⟨rfl, rfl⟩ (by kernel_rfl) rfl
    (fun f fn hf hfn => by
      obtain rfl : f = 3 := Option.some.inj ((show Tryd.prog.funcNamed "loop.example/g00890/laws.FnExactParseWaivers" = some 3 by kernel_rfl).symm.trans hf) |>.symm
      obtain rfl : fn = Tryd.f3 := (Option.some.inj (Tryd.func3.symm.trans hfn)).symm
      exact ⟨by kernel_rfl, fun j t ht => by
        rw [Tryd.params3] at ht
        have hm : t ∈ [9] := by simpa using Array.mem_of_getElem? ht
        have hall : ([9].all fun u => !Tryd.prog.wantsStandIn u) = true := by kernel_rfl
        exact (show Tryd.prog.wantsStandIn t = false by simpa using List.all_eq_true.1 hall t hm)⟩)
    (by kernel_rfl)
end Go.Proofs.YtcdigjhhmhkffaaDoor
