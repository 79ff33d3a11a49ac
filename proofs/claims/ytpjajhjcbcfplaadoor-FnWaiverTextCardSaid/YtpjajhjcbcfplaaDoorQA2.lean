/-
  The law FnWaiverText: whatever the draws, the law returns true; its card.
-/
import Derived.Test.YtpjajhjcbcfplaaDoorQA1
import Derived.Shelf.Strings.Cut
import Derived.Shelf.LaysM
import Derived.Test.YtpjajhjcbcfplaaDoorProg
import Derived.Test.YtpjajhjcbcfplaaDoorRows
import Derived.Test.YtpjajhjcbcfplaaDoorCards
import Derived.Test.YtpjajhjcbcfplaaDoorTie
import Derived.Carry
namespace Go.Proofs.YtpjajhjcbcfplaaDoor
set_option linter.unusedVariables false
set_option linter.unusedSimpArgs false
open Go
set_option maxRecDepth 20000
set_option maxHeartbeats 1000000
set_option linter.unusedSimpArgs false
variable {G : Gh} {L : List Ch} {R : Value → Gh → List Ch → Prop}
theorem rdC_long {l : List UInt8} (h : ¬ l.length ≤ 19) : rdC l = none := by rw [rdC, if_neg h]
theorem rdC_yes {l : List UInt8} {v : Int} (h : l.length ≤ 19) (hp : Go.Lib.parseIntB 64 l = .ok v) (e : Go.Lib.itoa v = l) : rdC l = some v := by rw [rdC, if_pos h, hp]; simp [e]
theorem rdC_off {l : List UInt8} {v : Int} (hp : Go.Lib.parseIntB 64 l = .ok v) (e : Go.Lib.itoa v ≠ l) : rdC l = none := by
  rw [rdC]; split
  · rw [hp]; simp [e]
  · rfl
theorem rdC_err {l : List UInt8} (hp : ∀ v, Go.Lib.parseIntB 64 l ≠ .ok v) : rdC l = none := by
  rw [rdC]; split
  · cases h : Go.Lib.parseIntB 64 l with
    | ok v => exact absurd h (hp v)
    | range => rfl
    | _ => rfl
  · rfl
theorem parse_bd {l : List UInt8} {v : Int} (hp : Go.Lib.parseIntB 64 l = .ok v) : -9223372036854775808 ≤ v ∧ v ≤ 9223372036854775807 := by
  have := Go.Lib.parseIntB_bounds hp
  simp at this; omega
theorem txt_inj {a b : List UInt8} (h : txt a = txt b) : a = b := by rw [← txt_list a, h, txt_list]
theorem parse_ok {s : List UInt8} {v : Int} (hL : Lp G) (hs : s.length ≤ 19) (hp : Go.Lib.parseIntB 64 s = .ok v) (k : R (.tuple #[vi v, .nilIface]) G L) : CallT Tryd.prog 25 #[.string (txt s), vi 10, vi 64] G L R :=
  parse_s hL hs (fun v' hv' => by rw [hp] at hv'; injection hv' with e; subst e; exact k) (fun h => absurd hp (h v))
theorem readDec_s {s : List UInt8} (hL : Lp G) (hs : s.length ≤ 1048576) (k : R (.tuple #[vi ((rdC s).getD 0), .bool (rdC s).isSome]) G L) : CallT Tryd.prog 14 #[.string (txt s)] G L R := by
  have hz : (txt s).size = s.length := txt_size s
  by_cases hp : ∃ v, Go.Lib.parseIntB 64 s = .ok v
  · obtain ⟨v, hp⟩ := hp
    obtain ⟨b1, b2⟩ := parse_bd hp
    refine CallT.enter (args := _) Tryd.func14 rfl rfl (by kernel_rfl) rfl ?_
    refine WP.seq ?_
    refine WP.region ?_
    refine RG.pv rfl (PV.mvI (.inr rfl) rfl) ?_
    refine RG.pv rfl (PV.mvB (.inr rfl) rfl) ?_
    refine RG.nil ?_
    refine WP.seq ?_
    refine WP.seq ?_
    refine WP.region ?_
    refine RG.pv rfl (PV.mvS (.inl rfl) rfl) ?_
    refine RG.pv rfl (PV.lenS rfl Tryd.underlying9 rfl) ?_
    refine RG.pv rfl (PV.gtr rfl rfl rfl) ?_
    refine RG.nil ?_
    refine WP.cond rfl (fun h1 => ?_) (fun h1 => ?_)
    · have h1 := of_decide_eq_true h1
      rw [rdC_long (by omega)] at k
      refine WP.seq ?_
      refine WP.region ?_
      refine RG.pv rfl (PV.mvI (.inr rfl) rfl) ?_
      refine RG.pv rfl (PV.mvB (.inr rfl) rfl) ?_
      refine RG.nil ?_
      refine WP.ret ?_
      exact ⟨_, _, ResV.two rfl rfl rfl, Cv.p, k⟩
    · have h1 := of_decide_eq_false h1
      refine WP.skip ?_
      refine WP.seq ?_
      refine WP.region ?_
      refine RG.pv rfl (PV.mvS (.inl rfl) rfl) ?_
      refine RG.callF (vs := [_, _, _]) rfl rfl En25 rfl (parse_ok hL (by omega) hp ?_)
      refine RG.pv rfl (PV.move (v := .tuple _) rfl rfl) ?_
      refine RG.pv rfl (PV.ext rfl rfl rfl) ?_
      refine RG.pv rfl (PV.ext rfl rfl rfl) ?_
      refine RG.pv rfl (PV.mvI (.inr rfl) rfl) ?_
      refine RG.pv rfl (PV.asg rfl rfl) ?_
      refine RG.nil ?_
      refine WP.seq ?_
      refine WP.seq ?_
      refine WP.region ?_
      refine RG.pv rfl (PV.move rfl rfl) ?_
      refine RG.pv rfl (PV.neqNil rfl (by kernel_rfl) rfl) ?_
      refine RG.pv rfl (PV.mvB (.inl rfl) rfl) ?_
      refine RG.gs rfl rfl rfl (fun hp => (PV.mvI (.inl rfl) rfl)) ?_
      refine RG.gsC rfl rfl rfl rfl En17 (fun hp => ⟨_, (acons (gs_t hp) anil), decimal_s hL.toLd (by omega) (by omega) ⟨rfl, rfl, rfl⟩⟩) ?_
      refine RG.gs rfl rfl rfl (fun hp => (PV.mvS (.inl rfl) rfl)) ?_
      refine RG.gs rfl rfl rfl (fun hp => (PV.neqS rfl (gs_t hp) (gs_t hp))) ?_
      refine RG.pv rfl (PV.pickO rfl rfl rfl (fun hq => gs_t (geqF hq))) ?_
      refine RG.nil ?_
      refine WP.cond rfl (fun h2 => ?_) (fun h2 => ?_)
      · have h2 : dec v ≠ txt s := by simpa using h2
        rw [rdC_off hp (fun e => h2 (by rw [dec, e]))] at k
        refine WP.seq ?_
        refine WP.region ?_
        refine RG.pv rfl (PV.mvI (.inr rfl) rfl) ?_
        refine RG.pv rfl (PV.mvB (.inr rfl) rfl) ?_
        refine RG.nil ?_
        refine WP.ret ?_
        exact ⟨_, _, ResV.two rfl rfl rfl, Cv.p, k⟩
      · have h2 : dec v = txt s := by simpa using h2
        rw [rdC_yes (by omega) hp (txt_inj h2)] at k
        refine WP.skip ?_
        refine WP.seq ?_
        refine WP.region ?_
        refine RG.pv rfl (PV.mvI (.inl rfl) rfl) ?_
        refine RG.pv rfl (PV.mvI (.inr rfl) rfl) ?_
        refine RG.pv rfl (PV.mvB (.inr rfl) rfl) ?_
        refine RG.nil ?_
        refine WP.ret ?_
        exact ⟨_, _, ResV.two rfl rfl rfl, Cv.p, k⟩
  · have hp : ∀ v, Go.Lib.parseIntB 64 s ≠ .ok v := fun v h => hp ⟨v, h⟩
    rw [rdC_err hp] at k
    refine CallT.enter (args := _) Tryd.func14 rfl rfl (by kernel_rfl) rfl ?_
    refine WP.seq ?_
    refine WP.region ?_
    refine RG.pv rfl (PV.mvI (.inr rfl) rfl) ?_
    refine RG.pv rfl (PV.mvB (.inr rfl) rfl) ?_
    refine RG.nil ?_
    refine WP.seq ?_
    refine WP.seq ?_
    refine WP.region ?_
    refine RG.pv rfl (PV.mvS (.inl rfl) rfl) ?_
    refine RG.pv rfl (PV.lenS rfl Tryd.underlying9 rfl) ?_
    refine RG.pv rfl (PV.gtr rfl rfl rfl) ?_
    refine RG.nil ?_
    refine WP.cond rfl (fun h1 => ?_) (fun h1 => ?_)
    · refine WP.seq ?_
      refine WP.region ?_
      refine RG.pv rfl (PV.mvI (.inr rfl) rfl) ?_
      refine RG.pv rfl (PV.mvB (.inr rfl) rfl) ?_
      refine RG.nil ?_
      refine WP.ret ?_
      exact ⟨_, _, ResV.two rfl rfl rfl, Cv.p, k⟩
    · have h1 := of_decide_eq_false h1
      refine WP.skip ?_
      refine WP.seq ?_
      refine WP.region ?_
      refine RG.pv rfl (PV.mvS (.inl rfl) rfl) ?_
      refine RG.callF (vs := [_, _, _]) rfl rfl En25 rfl (parse_s hL (by omega) (fun v h => absurd h (hp v)) (fun _ n1 t1 p1 b1 b2 => ?_))
      refine RG.pv rfl (PV.move (v := .tuple _) rfl rfl) ?_
      refine RG.pv rfl (PV.ext rfl rfl rfl) ?_
      refine RG.pv rfl (PV.ext rfl rfl rfl) ?_
      refine RG.pv rfl (PV.mvI (.inr rfl) rfl) ?_
      refine RG.pv rfl (PV.asg rfl rfl) ?_
      refine RG.nil ?_
      refine WP.seq ?_
      refine WP.seq ?_
      refine WP.region ?_
      refine RG.pv rfl (PV.move rfl rfl) ?_
      refine RG.pv rfl (PV.neqIf rfl (by kernel_rfl) rfl) ?_
      refine RG.pv rfl (PV.mvB (.inl rfl) rfl) ?_
      refine RG.gs rfl rfl rfl (fun hp => (PV.mvI (.inl rfl) rfl)) ?_
      refine RG.gsC rfl rfl rfl rfl En17 (fun hp => ⟨_, (acons (gs_t hp) anil), decimal_s hL.toLd b1 b2 ⟨rfl, rfl, rfl⟩⟩) ?_
      refine RG.gs rfl rfl rfl (fun hp => (PV.mvS (.inl rfl) rfl)) ?_
      refine RG.gs rfl rfl rfl (fun hp => (PV.neqS rfl (gs_t hp) (gs_t hp))) ?_
      refine RG.pv rfl (PV.pickO rfl rfl rfl (fun hq => gs_t (geqF hq))) ?_
      refine RG.nil ?_
      refine WP.cond rfl (fun h2 => ?_) (fun h2 => ?_)
      · refine WP.seq ?_
        refine WP.region ?_
        refine RG.pv rfl (PV.mvI (.inr rfl) rfl) ?_
        refine RG.pv rfl (PV.mvB (.inr rfl) rfl) ?_
        refine RG.nil ?_
        refine WP.ret ?_
        exact ⟨_, _, ResV.two rfl rfl rfl, Cv.p, k⟩
      · exfalso; simp at h2
end Go.Proofs.YtpjajhjcbcfplaaDoor
namespace Go.Proofs.YtpjajhjcbcfplaaDoor
set_option linter.unusedVariables false
set_option linter.unusedSimpArgs false
open Go
set_option maxRecDepth 20000
set_option maxHeartbeats 2000000
set_option linter.unusedSimpArgs false
variable {G : Gh} {L : List Ch} {R : Value → Gh → List Ch → Prop}
theorem txt_nil (l : List UInt8) : txt l = ByteArray.mk #[] ↔ l = [] := by
  constructor
  · intro h; exact txt_inj (h.trans (by rfl : ByteArray.mk #[] = txt []))
  · rintro rfl; rfl
def pwF (s : List UInt8) : List Waiver × Int × Int := pwR (s.length + 1) [] 1 s
/-- the program's tests of a line -/
theorem line_bad {out : List Waiver} {t : List UInt8} (h : (!((rdC (bef 32 t)).isSome) || decide ((rdC (bef 32 t)).getD 0 < 0) || decide (10 < ((bef 32 t).length : Int)) || !reason (txt (aft 32 t))) = true) : lineC out t = 4 := by
  have h2 : (numC (bef 32 t) && reason (txt (aft 32 t))) = false := by
    rw [Bool.and_eq_false_iff]
    by_cases c : numC (bef 32 t) = true
    · right
      obtain ⟨g1, g2, g3⟩ := (rdC_test _).2 c
      have e1 : decide ((rdC (bef 32 t)).getD 0 < 0) = false := decide_eq_false (by omega)
      have e2 : decide (10 < ((bef 32 t).length : Int)) = false := decide_eq_false (by omega)
      rw [g1, e1, e2] at h; simpa using h
    · left; simpa using c
  rw [lineC, h2]; rfl
theorem line_good {t : List UInt8} (h : (!((rdC (bef 32 t)).isSome) || decide ((rdC (bef 32 t)).getD 0 < 0) || decide (10 < ((bef 32 t).length : Int)) || !reason (txt (aft 32 t))) = false) : numC (bef 32 t) = true ∧ reason (txt (aft 32 t)) = true := by
  simp only [Bool.or_eq_false_iff, Bool.not_eq_false', decide_eq_false_iff_not] at h
  exact ⟨(rdC_test _).1 ⟨h.1.1.1, by omega, by omega⟩, h.2⟩
theorem line_is {out : List Waiver} {t : List UInt8} (h1 : numC (bef 32 t) = true) (h2 : reason (txt (aft 32 t)) = true) : lineC out t = if 2147483646 < (valD 0 (bef 32 t) : Int) then 2 else if 0 < out.length ∧ (valD 0 (bef 32 t) : Int) ≤ (gd out (out.length - 1)).sig then 6 else if out.length = 16 then 3 else 0 := by
  rw [lineC, h1, h2]; rfl
theorem parse_i {s : List UInt8} (hL : Lp G) (hs : s.length ≤ 1048576) (k : ∀ v', R (.tuple #[v', vi (pwF s).2.1, vi (pwF s).2.2]) G (osl 31 waiverT v' (pwF s).1 :: L)) : CallT Tryd.prog 7 #[.string (txt s)] G L R := by
  refine CallT.enter (args := _) Tryd.func7 rfl rfl (by kernel_rfl) rfl ?_
  refine WP.seq ?_
  refine WP.region ?_
  refine RG.pv rfl (PV.asg rfl rfl) ?_
  refine RG.pv rfl (PV.mvI (.inr rfl) rfl) ?_
  refine RG.pv rfl (PV.mvI (.inr rfl) rfl) ?_
  refine RG.nil ?_
  refine WP.seq ?_
  refine WP.region ?_
  refine RG.ot rfl (OT.bslice (F := waiverT) (els := []) rfl El24 rfl (by decide) rfl (by decide) trivial fun v16 => ?_)
  refine RG.pv rfl (PV.asg (v := v16) rfl rfl) ?_
  refine RG.nil ?_
  refine WP.seq ?_
  refine WP.seq ?_
  refine WP.region ?_
  refine RG.pv rfl (PV.mvI (.inr rfl) rfl) ?_
  refine RG.nil ?_
  refine WP.block ?_
  refine WP.loop5 [] (fun (l : List UInt8) (out : List Waiver) (f : Nat) (line : Int) (q : Value) => l.length < f ∧ out.length ≤ 16 ∧ 1 ≤ line ∧ line + l.length ≤ 1 + s.length ∧ pwR f out line l = pwF s) (fun (l : List UInt8) (out : List Waiver) (f : Nat) (line : Int) (q : Value) => [(0, .string (txt l)), (6, vi line), (5, q)]) (fun (l : List UInt8) (out : List Waiver) (f : Nat) (line : Int) (q : Value) => osl 31 waiverT q out :: L) (fun (l : List UInt8) (out : List Waiver) (f : Nat) (line : Int) (q : Value) => l.length) s [] (s.length + 1) 1 v16 ⟨by omega, by simp, by omega, by omega, rfl⟩ ⟨rfl, rfl, rfl, trivial⟩ Cv.p ?_
  rintro l out f line q τ ⟨hf, ho, hl1, hl2, he⟩
  refine WP.seq ?_
  refine WP.seq ?_
  refine WP.region ?_
  refine RG.pv rfl (PV.mvS (.inl rfl) rfl) ?_
  refine RG.pv rfl (PV.neqS rfl rfl rfl) ?_
  refine RG.nil ?_
  refine WP.cond rfl (fun h1 => ?_) (fun h1 => ?_)
  · have h1 : l ≠ [] := fun e => by rw [(txt_nil l).2 e] at h1; simp at h1
    have hbl := bef_le 10 l
    have hb2 := bef_le 32 (bef 10 l)
    have ha2 : (aft 32 (bef 10 l)).length ≤ (bef 10 l).length := by rw [aft, List.length_drop]; omega
    refine WP.skip ?_
    refine WP.seq ?_
    refine WP.block ?_
    refine WP.seq ?_
    refine WP.region ?_
    refine RG.pv rfl (PV.mvS (.inl rfl) rfl) ?_
    refine RG.callF (vs := [_, _]) rfl rfl En13 rfl (cut_s (c := 10) hL (by omega) ?_)
    refine RG.pv rfl (PV.move rfl rfl) ?_
    refine RG.pv rfl (PV.ext rfl rfl rfl) ?_
    refine RG.pv rfl (PV.ext rfl rfl rfl) ?_
    refine RG.pv rfl (PV.ext rfl rfl rfl) ?_
    refine RG.pv rfl (PV.mvS (.inr rfl) rfl) ?_
    refine RG.pv rfl (PV.mvS (.inr rfl) rfl) ?_
    refine RG.pv rfl (PV.mvB (.inr rfl) rfl) ?_
    refine RG.nil ?_
    refine WP.seq ?_
    refine WP.region ?_
    refine RG.pv rfl (PV.mvS (.inl rfl) rfl) ?_
    refine RG.callF (vs := [_, _]) rfl rfl En13 rfl (cut_s (c := 32) hL (by omega) ?_)
    refine RG.pv rfl (PV.move rfl rfl) ?_
    refine RG.pv rfl (PV.ext rfl rfl rfl) ?_
    refine RG.pv rfl (PV.ext rfl rfl rfl) ?_
    refine RG.pv rfl (PV.ext rfl rfl rfl) ?_
    refine RG.pv rfl (PV.mvS (.inr rfl) rfl) ?_
    refine RG.pv rfl (PV.mvS (.inr rfl) rfl) ?_
    refine RG.pv rfl (PV.mvB (.inr rfl) rfl) ?_
    refine RG.nil ?_
    refine WP.seq ?_
    refine WP.region ?_
    refine RG.pv rfl (PV.mvS (.inl rfl) rfl) ?_
    refine RG.callF (vs := [_]) rfl rfl En14 rfl (readDec_s hL (by omega) ?_)
    refine RG.pv rfl (PV.move rfl rfl) ?_
    refine RG.pv rfl (PV.ext rfl rfl rfl) ?_
    refine RG.pv rfl (PV.ext rfl rfl rfl) ?_
    refine RG.pv rfl (PV.mvI (.inr rfl) rfl) ?_
    refine RG.pv rfl (PV.mvB (.inr rfl) rfl) ?_
    refine RG.nil ?_
    refine WP.seq ?_
    refine WP.region ?_
    refine RG.pv rfl (PV.mvI (.inr rfl) rfl) ?_
    refine RG.nil ?_
    refine WP.seq ?_
    refine WP.block ?_
    refine WP.seq ?_
    refine WP.region ?_
    refine RG.pv rfl (PV.mvB (.inl rfl) rfl) ?_
    refine RG.pv rfl (PV.not rfl rfl) ?_
    refine RG.pv rfl (PV.mvB (.inl rfl) rfl) ?_
    refine RG.gs rfl rfl rfl (fun hp => (PV.mvB (.inl rfl) rfl)) ?_
    refine RG.gs rfl rfl rfl (fun hp => (PV.not rfl (gs_t hp))) ?_
    refine RG.pv rfl (PV.pickO rfl rfl rfl (fun hq => gs_t (geqF hq))) ?_
    refine RG.pv rfl (PV.mvB (.inl rfl) rfl) ?_
    refine RG.gs rfl rfl rfl (fun hp => (PV.mvI (.inl rfl) rfl)) ?_
    refine RG.gs rfl rfl rfl (fun hp => (PV.lss rfl (gs_t hp) rfl)) ?_
    refine RG.pv rfl (PV.pickO rfl rfl rfl (fun hq => gs_t (geqF hq))) ?_
    refine RG.pv rfl (PV.mvB (.inl rfl) rfl) ?_
    refine RG.gs rfl rfl rfl (fun hp => (PV.mvS (.inl rfl) rfl)) ?_
    refine RG.gs rfl rfl rfl (fun hp => (PV.lenS rfl Tryd.underlying9 (gs_t hp))) ?_
    refine RG.gs rfl rfl rfl (fun hp => (PV.gtr rfl (gs_t hp) rfl)) ?_
    refine RG.pv rfl (PV.pickO rfl rfl rfl (fun hq => gs_t (geqF hq))) ?_
    refine RG.pv rfl (PV.mvB (.inl rfl) rfl) ?_
    refine RG.gs rfl rfl rfl (fun hp => (PV.mvS (.inl rfl) rfl)) ?_
    refine RG.gsC rfl rfl rfl rfl En15 (fun hp => ⟨_, (acons (gs_t hp) anil), isReason_s (by rw [txt_size]; omega) ⟨rfl, rfl, rfl⟩⟩) ?_
    refine RG.gs rfl rfl rfl (fun hp => (PV.not rfl (gs_t hp))) ?_
    refine RG.pv rfl (PV.pickO rfl rfl rfl (fun hq => gs_t (geqF hq))) ?_
    refine RG.pv rfl (PV.mvB (.inr rfl) rfl) ?_
    refine RG.nil ?_
    refine WP.cond rfl (fun h2 => ?_) (fun h2 => ?_)
    · have e : pwF s = ([], 4, line) := by
        by_cases hen : (bef 10 l).length < l.length
        · have hc : lineC out (bef 10 l) = 4 := line_bad (by simp only [hen, decide_true, Bool.not_true, Bool.false_or] at h2; simpa [txt_size] using h2)
          have e := he.symm.trans (pwR_bad (by omega) h1 hen (by rw [hc]; decide))
          rwa [hc] at e
        · exact he.symm.trans (pwR_end (by omega) h1 hen)
      rw [e] at k
      refine WP.region ?_
      refine RG.pv rfl (PV.mvI (.inr rfl) rfl) ?_
      refine RG.nil ?_
      refine WP.seq ?_
      refine WP.seq ?_
      refine WP.region ?_
      refine RG.pv rfl (PV.mvI (.inl rfl) rfl) ?_
      refine RG.pv rfl (PV.neq rfl rfl rfl) ?_
      refine RG.nil ?_
      refine WP.cond rfl (fun h3 => ?_) (fun h3 => ?_)
      · refine WP.seq ?_
        refine WP.region ?_
        refine RG.pv rfl (PV.mvI (.inl rfl) rfl) ?_
        refine RG.pv rfl (PV.mvI (.inl rfl) rfl) ?_
        refine RG.pv rfl (PV.asg rfl rfl) ?_
        refine RG.pv rfl (PV.mvI (.inr rfl) rfl) ?_
        refine RG.pv rfl (PV.mvI (.inr rfl) rfl) ?_
        refine RG.nil ?_
        refine WP.ret ?_
        exact ⟨_, _, ResV.three rfl rfl rfl rfl, Cv.nilP, k (.slice none 0 0)⟩
      · skip
        simp at h3
    · have hen : (bef 10 l).length < l.length := by
        by_cases hen : (bef 10 l).length < l.length
        · exact hen
        · exfalso; simp [hen] at h2
      obtain ⟨g1, g2⟩ := line_good (t := bef 10 l) (by simp only [hen, decide_true, Bool.not_true, Bool.false_or] at h2; simpa [txt_size] using h2)
      have hv : (rdC (bef 32 (bef 10 l))).getD 0 = (valD 0 (bef 32 (bef 10 l)) : Int) := by rw [rdC_num g1]; rfl
      have hli := line_is (out := out) g1 g2
      have hbad := fun (h : lineC out (bef 10 l) ≠ 0) => he.symm.trans (pwR_bad (by omega) h1 hen h)
      refine WP.seq ?_
      refine WP.region ?_
      refine RG.pv rfl (PV.mvI (.inl rfl) rfl) ?_
      refine RG.pv rfl (PV.gtr rfl rfl rfl) ?_
      refine RG.pv rfl (PV.mvB (.inr rfl) rfl) ?_
      refine RG.nil ?_
      rw [hv]
      refine WP.cond rfl (fun h3 => ?_) (fun h3 => ?_)
      · have h3 := of_decide_eq_true h3
        have hc : lineC out (bef 10 l) = 2 := by rw [hli, if_pos h3]
        have e := hbad (by rw [hc]; decide)
        rw [hc] at e
        rw [e] at k
        refine WP.region ?_
        refine RG.pv rfl (PV.mvI (.inr rfl) rfl) ?_
        refine RG.nil ?_
        refine WP.seq ?_
        refine WP.seq ?_
        refine WP.region ?_
        refine RG.pv rfl (PV.mvI (.inl rfl) rfl) ?_
        refine RG.pv rfl (PV.neq rfl rfl rfl) ?_
        refine RG.nil ?_
        refine WP.cond rfl (fun h5 => ?_) (fun h5 => ?_)
        · refine WP.seq ?_
          refine WP.region ?_
          refine RG.pv rfl (PV.mvI (.inl rfl) rfl) ?_
          refine RG.pv rfl (PV.mvI (.inl rfl) rfl) ?_
          refine RG.pv rfl (PV.asg rfl rfl) ?_
          refine RG.pv rfl (PV.mvI (.inr rfl) rfl) ?_
          refine RG.pv rfl (PV.mvI (.inr rfl) rfl) ?_
          refine RG.nil ?_
          refine WP.ret ?_
          exact ⟨_, _, ResV.three rfl rfl rfl rfl, Cv.nilP, k (.slice none 0 0)⟩
        · skip
          simp at h5
      · have h3 := of_decide_eq_false h3
        refine WP.seq ?_
        refine WP.region ?_
        refine RG.pv rfl (PV.move (v := q) rfl rfl) ?_
        refine RG.pv rfl (PV.len (v := q) rfl Tryd.underlying24 rfl SlF.o) ?_
        refine RG.pv rfl (PV.gtr rfl rfl rfl) ?_
        refine RG.pv rfl (PV.mvB (.inl rfl) rfl) ?_
        refine RG.gs rfl rfl rfl (fun hp => (PV.move (v := q) rfl rfl)) ?_
        refine RG.gs rfl rfl rfl (fun hp => (PV.move (v := q) rfl rfl)) ?_
        refine RG.gs rfl rfl rfl (fun hp => (PV.len (v := q) rfl Tryd.underlying24 (gs_t hp) SlF.o)) ?_
        refine RG.gs rfl rfl rfl (fun hp => (PV.sub rfl (gs_t hp) rfl (by first | omega | (simp at hp; omega)))) ?_
        refine RG.gs rfl rfl rfl (fun hp => (PV.idxS (j := (out.length - 1)) (v := q) rfl Is24 (gs_t hp) SlF.o (gs_t hp) (by first | omega | (simp at hp; omega)) (by first | omega | (simp at hp; omega)))) ?_
        refine RG.gs rfl rfl rfl (fun hp => (PV.field rfl Fo31_0 (gs_t hp))) ?_
        refine RG.gs rfl rfl rfl (fun hp => (PV.loadF (v := q) (j := 0) rfl Sc2 (gs_t hp) rfl (El.o (getG (by first | omega | (simp at hp; omega)))) rfl)) ?_
        refine RG.gs rfl rfl rfl (fun hp => (PV.mvI (.inl rfl) rfl)) ?_
        refine RG.gs rfl rfl rfl (fun hp => (PV.geq rfl (gs_t hp) (gs_t hp))) ?_
        refine RG.pv rfl (PV.pickA rfl rfl (fun hq => gs_t (geqT hq)) rfl) ?_
        refine RG.pv rfl (PV.mvB (.inr rfl) rfl) ?_
        refine RG.nil ?_
        refine WP.cond rfl (fun h4 => ?_) (fun h4 => ?_)
        · have h4 : 0 < out.length ∧ (valD 0 (bef 32 (bef 10 l)) : Int) ≤ (gd out (out.length - 1)).sig := by simp only [Bool.and_eq_true, decide_eq_true_eq] at h4; exact ⟨by omega, by omega⟩
          have hc : lineC out (bef 10 l) = 6 := by rw [hli, if_neg h3, if_pos h4]
          have e := hbad (by rw [hc]; decide)
          rw [hc] at e
          rw [e] at k
          refine WP.region ?_
          refine RG.pv rfl (PV.mvI (.inr rfl) rfl) ?_
          refine RG.nil ?_
          refine WP.seq ?_
          refine WP.seq ?_
          refine WP.region ?_
          refine RG.pv rfl (PV.mvI (.inl rfl) rfl) ?_
          refine RG.pv rfl (PV.neq rfl rfl rfl) ?_
          refine RG.nil ?_
          refine WP.cond rfl (fun h5 => ?_) (fun h5 => ?_)
          · refine WP.seq ?_
            refine WP.region ?_
            refine RG.pv rfl (PV.mvI (.inl rfl) rfl) ?_
            refine RG.pv rfl (PV.mvI (.inl rfl) rfl) ?_
            refine RG.pv rfl (PV.asg rfl rfl) ?_
            refine RG.pv rfl (PV.mvI (.inr rfl) rfl) ?_
            refine RG.pv rfl (PV.mvI (.inr rfl) rfl) ?_
            refine RG.nil ?_
            refine WP.ret ?_
            exact ⟨_, _, ResV.three rfl rfl rfl rfl, Cv.nilP, k (.slice none 0 0)⟩
          · skip
            simp at h5
        · have h4 : ¬ (0 < out.length ∧ (valD 0 (bef 32 (bef 10 l)) : Int) ≤ (gd out (out.length - 1)).sig) := fun g => by
            simp only [Bool.and_eq_false_iff, decide_eq_false_iff_not] at h4; omega
          refine WP.seq ?_
          refine WP.region ?_
          refine RG.pv rfl (PV.move (v := q) rfl rfl) ?_
          refine RG.pv rfl (PV.len (v := q) rfl Tryd.underlying24 rfl SlF.o) ?_
          refine RG.pv rfl (PV.eql rfl rfl rfl) ?_
          refine RG.pv rfl (PV.mvB (.inr rfl) rfl) ?_
          refine RG.nil ?_
          refine WP.cond rfl (fun h6 => ?_) (fun h6 => ?_)
          · have h6 : out.length = 16 := by have := of_decide_eq_true h6; omega
            have hc : lineC out (bef 10 l) = 3 := by rw [hli, if_neg h3, if_neg h4, if_pos h6]
            have e := hbad (by rw [hc]; decide)
            rw [hc] at e
            rw [e] at k
            refine WP.region ?_
            refine RG.pv rfl (PV.mvI (.inr rfl) rfl) ?_
            refine RG.nil ?_
            refine WP.seq ?_
            refine WP.seq ?_
            refine WP.region ?_
            refine RG.pv rfl (PV.mvI (.inl rfl) rfl) ?_
            refine RG.pv rfl (PV.neq rfl rfl rfl) ?_
            refine RG.nil ?_
            refine WP.cond rfl (fun h5 => ?_) (fun h5 => ?_)
            · refine WP.seq ?_
              refine WP.region ?_
              refine RG.pv rfl (PV.mvI (.inl rfl) rfl) ?_
              refine RG.pv rfl (PV.mvI (.inl rfl) rfl) ?_
              refine RG.pv rfl (PV.asg rfl rfl) ?_
              refine RG.pv rfl (PV.mvI (.inr rfl) rfl) ?_
              refine RG.pv rfl (PV.mvI (.inr rfl) rfl) ?_
              refine RG.nil ?_
              refine WP.ret ?_
              exact ⟨_, _, ResV.three rfl rfl rfl rfl, Cv.nilP, k (.slice none 0 0)⟩
            · skip
              simp at h5
          · have h6 : out.length ≠ 16 := by have := of_decide_eq_false h6; omega
            have hc : lineC out (bef 10 l) = 0 := by rw [hli, if_neg h3, if_neg h4, if_neg h6]
            have e := pwR_next (f := f) (line := line) (by omega) h1 hen hc
            have hal := aft_len hen
            refine WP.skip ?_
            refine WP.seq ?_
            refine WP.seq ?_
            refine WP.region ?_
            refine RG.pv rfl (PV.mvI (.inl rfl) rfl) ?_
            refine RG.pv rfl (PV.neq rfl rfl rfl) ?_
            refine RG.nil ?_
            refine WP.cond rfl (fun h5 => ?_) (fun h5 => ?_)
            · simp at h5
            · skip
              refine WP.skip ?_
              refine WP.seq ?_
              refine WP.region ?_
              refine RG.pv rfl (PV.move (v := q) rfl rfl) ?_
              refine RG.pv rfl (PV.mvI (.inl rfl) rfl) ?_
              refine RG.pv rfl (PV.mvS (.inl rfl) rfl) ?_
              refine RG.pv rfl (PV.build (vs := [(0, [vi _]), (1, [.string _])]) (out := [_, _]) rfl Zr31 Pl31 ⟨rfl, (Cl.c rfl), ⟨rfl, (Cl.c rfl), trivial⟩⟩ rfl) ?_
              refine RG.ot rfl (OT.bslice (F := waiverT) (els := [⟨_, _⟩]) rfl El24 rfl (by decide) rfl (by decide) ⟨rfl, (Cl.c rfl), trivial⟩ fun v89 => ?_)
              refine RG.ot rfl (OT.append (v := q) (u := v89) (F := waiverT) rfl El24 rfl (by decide) rfl rfl Rs.o (OneL.c (fun _ => rfl)) rfl (by first | omega | (simp <;> omega)) fun v90 => ?_)
              refine RG.pv rfl (PV.asg (v := v90) rfl rfl) ?_
              refine RG.nil ?_
              refine WP.region ?_
              refine RG.pv rfl (PV.mvS (.inl rfl) rfl) ?_
              refine RG.pv rfl (PV.mvS (.inr rfl) rfl) ?_
              refine RG.nil ?_
              refine WP.region ?_
              refine RG.pv rfl (PV.mvI (.inl rfl) rfl) ?_
              refine RG.pv rfl (PV.add rfl rfl rfl (by omega)) ?_
              refine RG.pv rfl (PV.mvI (.inr rfl) rfl) ?_
              refine RG.nil ?_
              exact ⟨rfl, (aft 10 l), (out ++ [⟨(valD 0 (bef 32 (bef 10 l)) : Int), ⟨(aft 32 (bef 10 l)).toArray⟩⟩]), (f - 1), (line + 1), v90, ⟨by omega, by simp; omega, by omega, by omega, e.symm.trans he⟩, ⟨rfl, rfl, rfl, trivial⟩, trivial, Cv.p, by omega⟩
  · have h1 : l = [] := by simpa [txt_nil] using h1
    subst h1
    rw [pwR_nil] at he
    rw [← he] at k
    refine WP.exit ?_
    refine WP.seq ?_
    refine WP.region ?_
    refine RG.pv rfl (PV.move (v := q) rfl rfl) ?_
    refine RG.pv rfl (PV.asg (v := q) rfl rfl) ?_
    refine RG.pv rfl (PV.mvI (.inr rfl) rfl) ?_
    refine RG.pv rfl (PV.mvI (.inr rfl) rfl) ?_
    refine RG.nil ?_
    refine WP.ret ?_
    exact ⟨_, _, ResV.three rfl rfl rfl rfl, Cv.p, k q⟩
end Go.Proofs.YtpjajhjcbcfplaaDoor
namespace Go.Proofs.YtpjajhjcbcfplaaDoor
set_option linter.unusedVariables false
set_option linter.unusedSimpArgs false
open Go
set_option maxRecDepth 20000
set_option maxHeartbeats 2000000
set_option linter.unusedSimpArgs false
variable {G : Gh} {L : List Ch} {R : Value → Gh → List Ch → Prop}
section
variable {P : Program} {σ : Nat → Value} {o : Oper} {T T' : TypeId} {x y : Operand}
end
theorem bt_txt (l : List UInt8) (i : Nat) : bt (txt l) i = gd l i := by
  by_cases h : i < l.length
  · have hz : (txt l).size = l.length := txt_size l
    rw [bt_eq (by omega), gd_eq h]; simp [txt, ByteArray.getElem_eq_getElem_data]
  · have hz : (txt l).size = l.length := txt_size l
    unfold bt gd
    rw [List.getElem?_eq_none (by omega), getElem?_neg _ _ (by omega)]; rfl
end Go.Proofs.YtpjajhjcbcfplaaDoor
namespace Go.Proofs.YtpjajhjcbcfplaaDoor
set_option linter.unusedVariables false
set_option linter.unusedSimpArgs false
open Go
set_option maxRecDepth 20000
set_option maxHeartbeats 2000000
set_option linter.unusedSimpArgs false
variable {G : Gh} {L : List Ch} {R : Value → Gh → List Ch → Prop}
theorem gd_mem {α : Type} [Inhabited α] {xs : List α} {i : Nat} (h : i < xs.length) : gd xs i ∈ xs := by rw [gd_eq h]; exact List.getElem_mem h
theorem u8i (c : UInt8) : IntKind.i64.wrap (c.toNat : Int) = c.toNat := i64w (by have := c.toNat_lt; omega)
theorem RsN {α : Type} {F : FT α} : Rs G L F (.slice none 0 0) [] := fun w hs => ⟨⟨0, Nat.le_refl _, Nat.zero_le _, .inr ⟨⟨none, rfl⟩, rfl⟩⟩, fun j c h => by simp [FT.flat] at h⟩
/-- the source in block b over the code cv -/
def src (b : Nat) (cv : Value) : Ch := fun h => ∃ p : Int × Int, (0 ≤ p.1 ∧ 0 ≤ p.2 ∧ p.2 < 2147483647) ∧ blk b 47 [cv, vi p.1, vi p.2] h
theorem Sep.ex {A : Type} {p : A → Prop} {c : A → Ch} {L : List Ch} {h : Hp} (s : Sep ((fun h => ∃ a, p a ∧ c a h) :: L) h) : ∃ a, p a ∧ Sep (c a :: L) h := by
  obtain ⟨h1, h2, d, l1, l2, ⟨a, ha, hc⟩, s⟩ := s
  exact ⟨a, ha, h1, h2, d, l1, l2, hc, s⟩
theorem CallT.exi {A : Type} {P : Program} {f : FuncId} {args : Array Value} {p : A → Prop} {c : A → Ch} (h : ∀ a, p a → CallT P f args G (c a :: L) R) : CallT P f args G ((fun h => ∃ a, p a ∧ c a h) :: L) R :=
  CallT.of fun w ⟨hp, s, rest⟩ => by
    obtain ⟨a, ha, s⟩ := s.ex
    exact (h a ha).run ⟨hp, s, rest⟩
theorem WP.exi {A : Type} {P : Program} {n : Nat} {c0 : Code} {Q : Post} {σ : Nat → Value} {p : A → Prop} {c : A → Ch} (h : ∀ a, p a → WP P n c0 Q σ G (c a :: L)) : WP P n c0 Q σ G ((fun h => ∃ a, p a ∧ c a h) :: L) :=
  WP.of fun hk x w hx ⟨hp, s, rest⟩ => by
    obtain ⟨a, ha, s⟩ := s.ex
    exact (h a ha).run hk hx ⟨hp, s, rest⟩
theorem Cv.src {b : Nat} {cv : Value} {x y : Int} {L : List Ch} (h : 0 ≤ x ∧ 0 ≤ y ∧ y < 2147483647) : Cv (blk b 47 [cv, vi x, vi y] :: L) (src b cv :: L) := Cv.imp fun hp hc => ⟨(x, y), h, hc⟩
theorem next_s {b : Nat} {n : Int} {cv : Value} {bs : List UInt8} (hcode : SL G byteT cv bs) (hn : n ≤ 4611686018427387904) (k : ∀ r, 0 ≤ r ∧ (r < n ∨ r = 0) → R (vi r) G (src b cv :: L)) : CallT Tryd.prog 18 #[.pointer (some ⟨b, 0, none⟩), vi n] G (src b cv :: L) R := by
  refine CallT.exi fun ⟨x, y⟩ ⟨hx, hy0, hy1⟩ => ?_
  have hbl := hcode.bound
  refine CallT.enter (args := _) Tryd.func18 rfl rfl (by kernel_rfl) rfl ?_
  refine WP.seq ?_
  refine WP.region ?_
  refine RG.pv rfl (PV.mvI (.inr rfl) rfl) ?_
  refine RG.nil ?_
  refine WP.seq ?_
  refine WP.seq ?_
  refine WP.region ?_
  refine RG.pv rfl (PV.mvI (.inl rfl) rfl) ?_
  refine RG.pv rfl (PV.leq rfl rfl rfl) ?_
  refine RG.nil ?_
  refine WP.cond rfl (fun h1 => ?_) (fun h1 => ?_)
  · refine WP.seq ?_
    refine WP.region ?_
    refine RG.pv rfl (PV.mvI (.inr rfl) rfl) ?_
    refine RG.nil ?_
    refine WP.ret ?_
    exact ⟨_, _, ResV.one rfl rfl, (Cv.src ⟨hx, hy0, hy1⟩), k _ ⟨by omega, .inr rfl⟩⟩
  · have h1 := of_decide_eq_false h1
    refine WP.skip ?_
    refine WP.seq ?_
    refine WP.seq ?_
    refine WP.regionQ (by kernel_rfl) (by kernel_rfl) ?_
    refine RQ.pv rfl (PV.mvP (.inl rfl) rfl) ?_
    refine RQ.pv rfl (PV.nilc rfl rfl) ?_
    refine RQ.pv rfl (PV.field rfl Fo47_1 rfl) ?_
    refine RQ.pv rfl (PV.load1 rfl Sc3 rfl (Rd.blk rfl)) ?_
    refine RQ.pv rfl (PV.mvP (.inl rfl) rfl) ?_
    refine RQ.pv rfl (PV.nilc rfl rfl) ?_
    refine RQ.pv rfl (PV.field rfl Fo47_0 rfl) ?_
    refine RQ.pv rfl (PV.load1 rfl Sc22 rfl (Rd.blk rfl)) ?_
    refine RQ.pv rfl (PV.len rfl Tryd.underlying22 rfl (SlF.r (Rs.g (L := []) hcode))) ?_
    refine RQ.pv rfl (PV.lss rfl rfl rfl) ?_
    refine RQ.nil ?_
    refine WP.cond rfl (fun h2 => ?_) (fun h2 => ?_)
    · have h2 := of_decide_eq_true h2
      have hc := (gd bs x.toNat).toNat_lt
      refine WP.seq ?_
      refine WP.regionQ (by kernel_rfl) (by kernel_rfl) ?_
      refine RQ.pv rfl (PV.mvP (.inl rfl) rfl) ?_
      refine RQ.pv rfl (PV.nilc rfl rfl) ?_
      refine RQ.pv rfl (PV.field rfl Fo47_0 rfl) ?_
      refine RQ.pv rfl (PV.load1 rfl Sc22 rfl (Rd.blk rfl)) ?_
      refine RQ.pv rfl (PV.mvP (.inl rfl) rfl) ?_
      refine RQ.pv rfl (PV.nilc rfl rfl) ?_
      refine RQ.pv rfl (PV.field rfl Fo47_1 rfl) ?_
      refine RQ.pv rfl (PV.load1 rfl Sc3 rfl (Rd.blk rfl)) ?_
      refine RQ.pv rfl (PV.idxS (j := x.toNat) rfl Is22 rfl (SlF.r (Rs.g (L := []) hcode)) rfl (by omega) (by omega)) ?_
      refine RQ.pv rfl (PV.loadE1 rfl Sc5 rfl rfl (El.r (Rs.g (L := []) hcode) (getG (by omega))) rfl) ?_
      refine RQ.pv rfl (PV.conv rfl ⟨_, Tryd.underlying5⟩ Tryd.underlying2 rfl (u8i _)) ?_
      refine RQ.pv rfl (PV.mvI (.inr rfl) rfl) ?_
      refine RQ.nil ?_
      refine WP.seq ?_
      refine WP.region ?_
      refine RG.pv rfl (PV.mvP (.inl rfl) rfl) ?_
      refine RG.pv rfl (PV.nilc rfl rfl) ?_
      refine RG.pv rfl (PV.field rfl Fo47_1 rfl) ?_
      refine RG.pv rfl (PV.load1 rfl Sc3 rfl (Rd.blk rfl)) ?_
      refine RG.pv rfl (PV.add rfl rfl rfl (by first | omega | exact u8add (by omega))) ?_
      refine RG.pv rfl (PV.nilc rfl rfl) ?_
      refine RG.pv rfl (PV.field rfl Fo47_1 rfl) ?_
      refine RG.ot rfl (OT.storeB (vs := [vi _]) (cs' := [_, _, _]) rfl Sz3 rfl rfl (Cl.c rfl) rfl (OneC.c rfl) rfl rfl ?_)
      refine RG.nil ?_
      refine WP.seq ?_
      refine WP.seq ?_
      refine WP.region ?_
      refine RG.pv rfl (PV.mvI (.inl rfl) rfl) ?_
      refine RG.pv rfl (PV.gtr rfl rfl rfl) ?_
      refine RG.nil ?_
      refine WP.cond rfl (fun h3 => ?_) (fun h3 => ?_)
      · refine WP.seq ?_
        refine WP.region ?_
        refine RG.pv rfl (PV.mvP (.inl rfl) rfl) ?_
        refine RG.pv rfl (PV.mvP (.inl rfl) rfl) ?_
        refine RG.pv rfl (PV.nilc rfl rfl) ?_
        refine RG.pv rfl (PV.field rfl Fo47_2 rfl) ?_
        refine RG.pv rfl (PV.load1 rfl Sc2 rfl (Rd.blk rfl)) ?_
        refine RG.pv rfl (PV.mul rfl rfl rfl (by omega)) ?_
        refine RG.pv rfl (PV.mvI (.inl rfl) rfl) ?_
        refine RG.pv rfl (PV.add rfl rfl rfl (by first | omega | exact u8add (by omega))) ?_
        refine RG.pv rfl (PV.add rfl rfl rfl (by first | omega | exact u8add (by omega))) ?_
        refine RG.pv rfl (PV.rem rfl rfl rfl (by omega) (by omega) (by omega)) ?_
        refine RG.pv rfl (PV.nilc rfl rfl) ?_
        refine RG.pv rfl (PV.field rfl Fo47_2 rfl) ?_
        refine RG.ot rfl (OT.storeB (vs := [vi _]) (cs' := [_, _, _]) rfl Sz2 rfl rfl (Cl.c rfl) rfl (OneC.c rfl) rfl rfl ?_)
        refine RG.nil ?_
        refine WP.seq ?_
        refine WP.region ?_
        refine RG.pv rfl (PV.mvP (.inl rfl) rfl) ?_
        refine RG.pv rfl (PV.nilc rfl rfl) ?_
        refine RG.pv rfl (PV.field rfl Fo47_2 rfl) ?_
        refine RG.pv rfl (PV.load1 rfl Sc2 rfl (Rd.blk rfl)) ?_
        refine RG.pv rfl (PV.mvI (.inl rfl) rfl) ?_
        refine RG.pv rfl (PV.rem rfl rfl rfl (by omega) (by omega) (by omega)) ?_
        refine RG.pv rfl (PV.mvI (.inr rfl) rfl) ?_
        refine RG.nil ?_
        refine WP.ret ?_
        exact ⟨_, _, ResV.one rfl rfl, (Cv.src ⟨by omega, by omega, by omega⟩), k _ ⟨Int.emod_nonneg _ (by omega), .inl (Int.emod_lt_of_pos _ (by omega))⟩⟩
      · refine WP.skip ?_
        refine WP.seq ?_
        refine WP.region ?_
        refine RG.pv rfl (PV.mvI (.inl rfl) rfl) ?_
        refine RG.pv rfl (PV.mvI (.inl rfl) rfl) ?_
        refine RG.pv rfl (PV.rem rfl rfl rfl (by omega) (by omega) (by omega)) ?_
        refine RG.pv rfl (PV.mvI (.inr rfl) rfl) ?_
        refine RG.nil ?_
        refine WP.ret ?_
        exact ⟨_, _, ResV.one rfl rfl, (Cv.src ⟨by omega, by omega, by omega⟩), k _ ⟨Int.emod_nonneg _ (by omega), .inl (Int.emod_lt_of_pos _ (by omega))⟩⟩
    · refine WP.skip ?_
      refine WP.seq ?_
      refine WP.region ?_
      refine RG.pv rfl (PV.mvP (.inl rfl) rfl) ?_
      refine RG.pv rfl (PV.mvP (.inl rfl) rfl) ?_
      refine RG.pv rfl (PV.nilc rfl rfl) ?_
      refine RG.pv rfl (PV.field rfl Fo47_2 rfl) ?_
      refine RG.pv rfl (PV.load1 rfl Sc2 rfl (Rd.blk rfl)) ?_
      refine RG.pv rfl (PV.mul rfl rfl rfl (by omega)) ?_
      refine RG.pv rfl (PV.add rfl rfl rfl (by omega)) ?_
      refine RG.pv rfl (PV.rem rfl rfl rfl (by omega) (by omega) (by omega)) ?_
      refine RG.pv rfl (PV.nilc rfl rfl) ?_
      refine RG.pv rfl (PV.field rfl Fo47_2 rfl) ?_
      refine RG.ot rfl (OT.storeB (vs := [vi _]) (cs' := [_, _, _]) rfl Sz2 rfl rfl (Cl.c rfl) rfl (OneC.c rfl) rfl rfl ?_)
      refine RG.nil ?_
      refine WP.seq ?_
      refine WP.region ?_
      refine RG.pv rfl (PV.mvP (.inl rfl) rfl) ?_
      refine RG.pv rfl (PV.nilc rfl rfl) ?_
      refine RG.pv rfl (PV.field rfl Fo47_2 rfl) ?_
      refine RG.pv rfl (PV.load1 rfl Sc2 rfl (Rd.blk rfl)) ?_
      refine RG.pv rfl (PV.quo rfl rfl rfl (by omega) (by omega) (by omega)) ?_
      refine RG.pv rfl (PV.mvI (.inl rfl) rfl) ?_
      refine RG.pv rfl (PV.rem rfl rfl rfl (by omega) (by omega) (by omega)) ?_
      refine RG.pv rfl (PV.mvI (.inr rfl) rfl) ?_
      refine RG.nil ?_
      refine WP.ret ?_
      exact ⟨_, _, ResV.one rfl rfl, (Cv.src ⟨by omega, by omega, by omega⟩), k _ ⟨Int.emod_nonneg _ (by omega), .inl (Int.emod_lt_of_pos _ (by omega))⟩⟩
theorem from_s {cv : Value} {bs : List UInt8} (hcode : SL G byteT cv bs) (k : ∀ b, R (.pointer (some ⟨b, 0, none⟩)) G (src b cv :: L)) : CallT Tryd.prog 9 #[cv] G L R := by
  have hbl := hcode.bound
  refine CallT.enter (args := _) Tryd.func9 rfl rfl (by kernel_rfl) rfl ?_
  refine WP.seq ?_
  refine WP.region ?_
  refine RG.pv rfl (PV.asg rfl rfl) ?_
  refine RG.nil ?_
  refine WP.seq ?_
  refine WP.region ?_
  refine RG.pv rfl (PV.move (v := cv) rfl rfl) ?_
  refine RG.pv rfl (PV.build (vs := [(0, [cv]), (2, [vi _])]) (out := [_, _, _]) rfl Zr47 Pl47 ⟨rfl, (Cl.s (SlF.r (Rs.g (L := []) hcode))), ⟨rfl, (Cl.c rfl), trivial⟩⟩ rfl) ?_
  refine RG.ot rfl (OT.box (cs := [cv, vi 0, vi 12345]) rfl rfl rfl fun b7 => ?_)
  refine RG.pv rfl (PV.mvP (.inr rfl) rfl) ?_
  refine RG.nil ?_
  refine WP.seq ?_
  refine WP.seq ?_
  refine WP.region ?_
  refine RG.pv rfl (PV.mvI (.inr rfl) rfl) ?_
  refine RG.nil ?_
  refine WP.block ?_
  refine WP.loop2 [0, 3] (fun (i : Nat) (y : Int) => i ≤ 64 ∧ 0 ≤ y ∧ y < 2147483647) (fun (i : Nat) (y : Int) => [(4, vi i)]) (fun (i : Nat) (y : Int) => blk b7 47 [cv, vi 0, vi y] :: L) (fun (i : Nat) (y : Int) => 64 - i) 0 12345 ⟨by omega, by omega, by omega⟩ ⟨rfl, trivial⟩ Cv.p ?_
  rintro i y τ ⟨hi, hy0, hy1⟩
  refine WP.seq ?_
  refine WP.seq ?_
  refine WP.region ?_
  refine RG.pv rfl (PV.mvI (.inl rfl) rfl) ?_
  refine RG.pv rfl (PV.move (v := cv) rfl rfl) ?_
  refine RG.pv rfl (PV.len (v := cv) rfl Tryd.underlying22 rfl (SlF.r (Rs.g (L := []) hcode))) ?_
  refine RG.pv rfl (PV.lss rfl rfl rfl) ?_
  refine RG.pv rfl (PV.mvB (.inl rfl) rfl) ?_
  refine RG.gs rfl rfl rfl (fun hp => (PV.mvI (.inl rfl) rfl)) ?_
  refine RG.gs rfl rfl rfl (fun hp => (PV.lss rfl (gs_t hp) rfl)) ?_
  refine RG.pv rfl (PV.pickA rfl rfl (fun hq => gs_t (geqT hq)) rfl) ?_
  refine RG.nil ?_
  refine WP.cond rfl (fun h2 => ?_) (fun h2 => ?_)
  · simp only [Bool.and_eq_true, decide_eq_true_eq] at h2
    have hc := (gd bs i).toNat_lt
    refine WP.skip ?_
    refine WP.seq ?_
    refine WP.block ?_
    refine WP.regionHD [.b b7] (.q 0 (.q 1 (.q 2 (.q 3 (.q 6 (.q 7 (.q 8 (.q 9 (.q 10 (.l 4 (.q 5 (.q 11 (.q 12 (.q 13 (.q 14 (.l 15 Sch.nil)))))))))))))))) (by kernel_rfl) (by kernel_rfl) (by kernel_rfl) rfl ?_
    refine RH.pv rfl (fun _ _ _ _ h => h) (Gh.le_refl _) PickC.pick rfl (PV.mvP (.inl rfl) rfl) ?_
    refine RH.pv rfl (fun _ _ _ _ h => h) (Gh.le_refl _) PickC.pick rfl (PV.mvP (.inl rfl) rfl) ?_
    refine RH.pv rfl (fun _ _ _ _ h => h) (Gh.le_refl _) PickC.pick rfl (PV.nilc rfl rfl) ?_
    refine RH.pv rfl (fun _ _ _ _ h => h) (Gh.le_refl _) PickC.pick rfl (PV.field rfl Fo47_2 rfl) ?_
    refine RH.pv rfl (fun _ _ _ _ h => h) (Gh.le_refl _) PickC.pick rfl (PV.move (v := cv) rfl rfl) ?_
    refine RH.pv rfl (fun _ _ _ _ h => h) (Gh.le_refl _) PickC.pick rfl (PV.mvI (.inl rfl) rfl) ?_
    refine RH.pv rfl (fun _ _ _ _ h => h) (Gh.le_refl _) PickC.pick rfl (PV.idxS (v := cv) rfl Is22 rfl (SlF.r (Rs.g (L := []) hcode)) rfl rfl (by omega)) ?_
    refine RH.pv rfl (fun _ _ _ _ h => h) (Gh.le_refl _) PickC.pick rfl (PV.loadE1 rfl Sc5 rfl rfl (El.r (Rs.g (L := []) hcode) (getG (by omega))) rfl) ?_
    refine RH.pv rfl (fun _ _ _ _ h => h) (Gh.le_refl _) PickC.pick rfl (PV.conv rfl ⟨_, Tryd.underlying5⟩ Tryd.underlying2 rfl (u8i _)) ?_
    refine RH.ot rfl rfl (OT.pv (PV.load1 rfl Sc2 rfl (Rd.blk rfl)) ⟨Gh.le_refl _, PickC.pick, ?_⟩)
    refine RH.pv rfl (fun _ _ _ _ h => h) (Gh.le_refl _) PickC.pick rfl (PV.mul rfl rfl rfl (by omega)) ?_
    refine RH.pv rfl (fun _ _ _ _ h => h) (Gh.le_refl _) PickC.pick rfl (PV.add rfl rfl rfl (by first | omega | exact u8add (by omega))) ?_
    refine RH.pv rfl (fun _ _ _ _ h => h) (Gh.le_refl _) PickC.pick rfl (PV.rem rfl rfl rfl (by omega) (by omega) (by omega)) ?_
    refine RH.pv rfl (fun _ _ _ _ h => h) (Gh.le_refl _) PickC.pick rfl (PV.nilc rfl rfl) ?_
    refine RH.pv rfl (fun _ _ _ _ h => h) (Gh.le_refl _) PickC.pick rfl (PV.field rfl Fo47_2 rfl) ?_
    refine RH.ot rfl rfl (OT.storeB (vs := [vi _]) (cs' := [_, _, _]) rfl Sz2 rfl rfl (Cl.c rfl) rfl (OneC.c rfl) rfl rfl ⟨Gh.le_refl _, PickC.pick, ?_⟩)
    refine RH.nil ?_
    refine WP.region ?_
    refine RG.pv rfl (PV.mvI (.inl rfl) rfl) ?_
    refine RG.pv rfl (PV.add rfl rfl rfl (by first | omega | exact u8add (by omega))) ?_
    refine RG.pv rfl (PV.mvI (.inr rfl) rfl) ?_
    refine RG.nil ?_
    exact ⟨rfl, i + 1, ((y * 31 + ((gd bs i).toNat : Int)) % 2147483647), ⟨by omega, by omega, by omega⟩, ⟨rfl, trivial⟩, ⟨rfl, rfl, trivial⟩, Cv.p, by omega⟩
  · refine WP.exit ?_
    refine WP.seq ?_
    refine WP.region ?_
    refine RG.pv rfl (PV.mvP (.inl rfl) rfl) ?_
    refine RG.pv rfl (PV.mvP (.inr rfl) rfl) ?_
    refine RG.nil ?_
    refine WP.ret ?_
    exact ⟨_, _, ResV.one rfl rfl, (Cv.src ⟨by omega, hy0, hy1⟩), k b7⟩
theorem big_s {cv : Value} {bs : List UInt8} (hcode : SL G byteT cv bs) (k : R (.bool (decide (4096 < bs.length))) G L) : CallT Tryd.prog 4 #[cv] G L R := by
  have e : decide (4096 < bs.length) = decide ((4096 : Int) < (bs.length : Int)) := by rw [Bool.eq_iff_iff]; simp; omega
  rw [e] at k
  refine CallT.enter (args := _) Tryd.func4 rfl rfl (by kernel_rfl) rfl ?_
  refine WP.seq ?_
  refine WP.region ?_
  refine RG.pv rfl (PV.mvB (.inr rfl) rfl) ?_
  refine RG.nil ?_
  refine WP.seq ?_
  refine WP.region ?_
  refine RG.pv rfl (PV.move (v := cv) rfl rfl) ?_
  refine RG.pv rfl (PV.len (v := cv) rfl Tryd.underlying22 rfl (SlF.r (Rs.g (L := []) hcode))) ?_
  refine RG.pv rfl (PV.gtr rfl rfl rfl) ?_
  refine RG.pv rfl (PV.mvB (.inr rfl) rfl) ?_
  refine RG.nil ?_
  refine WP.ret ?_
  exact ⟨_, _, ResV.one rfl rfl, Cv.p, k⟩
def hasW (ws : List Waiver) (n : Int) : Bool := ws.any fun w => decide (w.sig = n)
theorem l22Has_s {v : Value} {ws : List Waiver} {n : Int} (h1 : Rs G L waiverT v ws) (k : R (.bool (hasW ws n)) G L) : CallT Tryd.prog 20 #[v, vi n] G L R := by
  refine CallT.bd h1 fun hb => ?_
  refine CallT.enter (args := _) Tryd.func20 rfl rfl (by kernel_rfl) rfl ?_
  refine WP.seq ?_
  refine WP.region ?_
  refine RG.pv rfl (PV.mvB (.inr rfl) rfl) ?_
  refine RG.nil ?_
  refine WP.seq ?_
  refine WP.seq ?_
  refine WP.region ?_
  refine RG.pv rfl (PV.mvI (.inr rfl) rfl) ?_
  refine RG.nil ?_
  refine WP.block ?_
  refine WP.loop1 [0, 1] (fun i => i ≤ ws.length ∧ ∀ j, j < i → decide ((gd ws j).sig = n) = false) (fun i => [(5, vi i)]) (fun i => L) (fun i => ws.length - i) 0 ⟨by omega, fun j h => by omega⟩ ⟨rfl, trivial⟩ Cv.p ?_
  rintro i τ ⟨hi, hj⟩
  refine WP.seq ?_
  refine WP.seq ?_
  refine WP.region ?_
  refine RG.pv rfl (PV.mvI (.inl rfl) rfl) ?_
  refine RG.pv rfl (PV.move (v := v) rfl rfl) ?_
  refine RG.pv rfl (PV.len (v := v) rfl Tryd.underlying24 rfl (SlF.r h1)) ?_
  refine RG.pv rfl (PV.lss rfl rfl rfl) ?_
  refine RG.nil ?_
  refine WP.cond rfl (fun h2 => ?_) (fun h2 => ?_)
  · have h2 := of_decide_eq_true h2
    refine WP.skip ?_
    refine WP.seq ?_
    refine WP.block ?_
    refine WP.seq ?_
    refine WP.region ?_
    refine RG.pv rfl (PV.move (v := v) rfl rfl) ?_
    refine RG.pv rfl (PV.mvI (.inl rfl) rfl) ?_
    refine RG.pv rfl (PV.idxS (v := v) rfl Is24 rfl (SlF.r h1) rfl rfl (by omega)) ?_
    refine RG.pv rfl (PV.field rfl Fo31_0 rfl) ?_
    refine RG.pv rfl (PV.loadF rfl Sc2 rfl rfl (El.r h1 (getG (by omega))) rfl) ?_
    refine RG.pv rfl (PV.mvI (.inl rfl) rfl) ?_
    refine RG.pv rfl (PV.eql rfl rfl rfl) ?_
    refine RG.nil ?_
    refine WP.cond rfl (fun h3 => ?_) (fun h3 => ?_)
    · have e : hasW ws n = true := List.any_eq_true.2 ⟨gd ws i, by rw [gd_eq (by omega)]; exact List.getElem_mem _, h3⟩
      rw [e] at k
      refine WP.seq ?_
      refine WP.region ?_
      refine RG.pv rfl (PV.mvB (.inr rfl) rfl) ?_
      refine RG.nil ?_
      refine WP.ret ?_
      exact ⟨_, _, ResV.one rfl rfl, Cv.p, k⟩
    · have hj' : ∀ j, j < i + 1 → decide ((gd ws j).sig = n) = false := fun j h => by
        by_cases c : j = i
        · rw [c]; exact h3
        · exact hj j (by omega)
      refine WP.skip ?_
      refine WP.region ?_
      refine RG.pv rfl (PV.mvI (.inl rfl) rfl) ?_
      refine RG.pv rfl (PV.add rfl rfl rfl (by omega)) ?_
      refine RG.pv rfl (PV.mvI (.inr rfl) rfl) ?_
      refine RG.nil ?_
      exact ⟨rfl, i + 1, ⟨by omega, hj'⟩, ⟨rfl, trivial⟩, ⟨rfl, rfl, trivial⟩, Cv.p, by omega⟩
  · have h2 := of_decide_eq_false h2
    have e : hasW ws n = false := by
      rw [hasW, List.any_eq_false]
      intro r hr
      obtain ⟨j, hj2, rfl⟩ := List.getElem_of_mem hr
      have := hj j (by omega)
      rw [gd_eq hj2] at this
      simpa using this
    rw [e] at k
    refine WP.exit ?_
    refine WP.seq ?_
    refine WP.region ?_
    refine RG.pv rfl (PV.mvB (.inr rfl) rfl) ?_
    refine RG.nil ?_
    refine WP.ret ?_
    exact ⟨_, _, ResV.one rfl rfl, Cv.p, k⟩
def RsOk (ws : List Waiver) : Prop := ∀ w ∈ ws, w.reason.size ≤ 9
theorem RsOk.set {ws : List Waiver} (h : RsOk ws) (i : Nat) {w : Waiver} (hw : w.reason.size ≤ 9) : RsOk (ws.set i w) := fun a ha => by
  rcases List.mem_or_eq_of_mem_set ha with h1 | h1
  · exact h a h1
  · rw [h1]; exact hw
theorem RsOk.app {ws : List Waiver} (h : RsOk ws) {w : Waiver} (hw : w.reason.size ≤ 9) : RsOk (ws ++ [w]) := fun a ha => by
  rcases List.mem_append.1 ha with h1 | h1
  · exact h a h1
  · simp only [List.mem_singleton] at h1; rw [h1]; exact hw
theorem spoilWaivers_w {b : Nat} {n : Int} {cv v : Value} {bs : List UInt8} {ws : List Waiver} (hcode : SL G byteT cv bs) (hn : 1 ≤ n ∧ n ≤ 100) (hl : ws.length ≤ 10000) (hm : RsOk ws) (k : ∀ v' ws', RsOk ws' → R v' G (osl 31 waiverT v' ws' :: src b cv :: L)) : CallT Tryd.prog 10 #[.pointer (some ⟨b, 0, none⟩), v, vi n] G (osl 31 waiverT v ws :: src b cv :: L) R := by
  refine CallT.enter (args := _) Tryd.func10 rfl rfl (by kernel_rfl) rfl ?_
  refine WP.seq ?_
  refine WP.region ?_
  refine RG.pv rfl (PV.asg rfl rfl) ?_
  refine RG.nil ?_
  refine WP.seq ?_
  refine WP.seq ?_
  refine WP.region ?_
  refine RG.pv rfl (PV.move (v := v) rfl rfl) ?_
  refine RG.pv rfl (PV.len (v := v) rfl Tryd.underlying24 rfl SlF.o) ?_
  refine RG.pv rfl (PV.eql rfl rfl rfl) ?_
  refine RG.pv rfl (PV.mvB (.inl rfl) rfl) ?_
  refine RG.spl (t := 12) rfl (fun g1 => ?_) (fun g1 => ?_)
  · refine RG.skip rfl rfl rfl (gneF g1) ?_
    refine RG.skip rfl rfl rfl (gneF g1) ?_
    refine RG.skip rfl rfl rfl (gneF g1) ?_
    refine RG.skip rfl rfl rfl (gneF g1) ?_
    refine RG.pv rfl (PV.pickT rfl rfl g1 rfl) ?_
    refine RG.nil ?_
    refine WP.cond rfl (fun h2 => ?_) (fun h2 => ?_)
    · refine WP.seq ?_
      refine WP.region ?_
      refine RG.pv rfl (PV.move (v := v) rfl rfl) ?_
      refine RG.pv rfl (PV.asg (v := v) rfl rfl) ?_
      refine RG.nil ?_
      refine WP.ret ?_
      exact ⟨_, _, ResV.one rfl rfl, Cv.p, k v ws hm⟩
    · skip
      cases h2
  · have g2 : ws.length ≠ 0 := by simp at g1; simpa using g1
    refine RG.take rfl rfl rfl g1 ?_
    refine RG.pv rfl (PV.move rfl rfl) ?_
    refine RG.take rfl rfl rfl g1 ?_
    refine RG.pv rfl (PV.mvI (.inl rfl) rfl) ?_
    refine RG.take rfl rfl rfl g1 ?_
    refine RG.callF (vs := [_, _]) rfl rfl En18 rfl (CallT.exC (src b cv) (next_s hcode (by omega) (fun w15 hw15 => ?_)))
    refine RG.take rfl rfl rfl g1 ?_
    refine RG.pv rfl (PV.neq rfl rfl rfl) ?_
    refine RG.pv rfl (PV.pickE rfl rfl g1 rfl) ?_
    refine RG.nil ?_
    refine WP.cond rfl (fun h2 => ?_) (fun h2 => ?_)
    · refine WP.seq ?_
      refine WP.region ?_
      refine RG.pv rfl (PV.move (v := v) rfl rfl) ?_
      refine RG.pv rfl (PV.asg (v := v) rfl rfl) ?_
      refine RG.nil ?_
      refine WP.ret ?_
      exact ⟨_, _, ResV.one rfl rfl, Cv.p, k v ws hm⟩
    · have hlm : ws.length - 1 < ws.length := by omega
      have hml := hm _ (gd_mem hlm)
      refine WP.skip ?_
      refine WP.seq ?_
      refine WP.region ?_
      refine RG.ot rfl (OT.bslice (F := waiverT) (els := []) rfl El24 rfl (by decide) rfl (by decide) trivial fun v19 => ?_)
      refine RG.pv rfl (PV.move (v := v) rfl rfl) ?_
      refine RG.ot rfl (OT.append (v := v19) (u := v) (F := waiverT) rfl El24 rfl (by decide) rfl rfl Rs.o (OneL.c (fun _ => rfl)) rfl (by first | omega | (simp <;> omega)) fun v21 => ?_)
      refine RG.pv rfl (PV.asg (v := v21) rfl rfl) ?_
      refine RG.nil ?_
      refine WP.seq ?_
      refine WP.seq ?_
      refine WP.region ?_
      refine RG.pv rfl (PV.move rfl rfl) ?_
      refine RG.callF (vs := [_, _]) rfl rfl En18 rfl (CallT.exC (src b cv) (next_s hcode (by omega) (fun w23 hw23 => ?_)))
      refine RG.nil ?_
      refine WP.block ?_
      refine WP.seq ?_
      refine WP.region ?_
      refine RG.pv rfl (PV.eql rfl rfl rfl) ?_
      refine RG.pv rfl (PV.mvB (.inr rfl) rfl) ?_
      refine RG.nil ?_
      refine WP.cv ((Cv.p (C := osl 31 waiverT v21 ([] ++ ws) :: src b cv :: L)).trans (Cv.eqS (List.nil_append _))) ?_
      refine WP.cond rfl (fun h3 => ?_) (fun h3 => ?_)
      · refine WP.region ?_
        refine RG.pv rfl (PV.move (v := v21) rfl rfl) ?_
        refine RG.pv rfl (PV.idxS (j := 0) (v := v21) rfl Is24 rfl SlF.o rfl (by first | omega | (simp only [List.length_set]; omega)) (by first | omega | (simp only [List.length_set]; omega))) ?_
        refine RG.pv rfl (PV.field rfl Fo31_1 rfl) ?_
        refine RG.ot rfl (OT.storeF (F := waiverT) (val := Value.string) (cv := fun u => [.string u]) (st := Waiver.s1) rfl Sz9 rfl rfl rfl (Cl.c rfl) rfl (OneC.c rfl) (by exact set_self (by omega)) (by first | omega | (simp; omega)) rfl (fun _ _ => rfl) ?_)
        refine RG.nil ?_
        refine WP.seq ?_
        refine WP.region ?_
        refine RG.pv rfl (PV.move (v := v21) rfl rfl) ?_
        refine RG.pv rfl (PV.asg (v := v21) rfl rfl) ?_
        refine RG.nil ?_
        refine WP.ret ?_
        exact ⟨_, _, ResV.one rfl rfl, Cv.p, k v21 (ws.set 0 (Waiver.s1 (ByteArray.mk #[]) (gd ws 0))) (hm.set 0 (show (ByteArray.mk #[]).size ≤ 9 by decide))⟩
      · refine WP.seq ?_
        refine WP.region ?_
        refine RG.pv rfl (PV.eql rfl rfl rfl) ?_
        refine RG.pv rfl (PV.mvB (.inr rfl) rfl) ?_
        refine RG.nil ?_
        refine WP.cond rfl (fun h4 => ?_) (fun h4 => ?_)
        · refine WP.seq ?_
          refine WP.region ?_
          refine RG.pv rfl (PV.move (v := v21) rfl rfl) ?_
          refine RG.pv rfl (PV.move (v := v21) rfl rfl) ?_
          refine RG.pv rfl (PV.len (v := v21) rfl Tryd.underlying24 rfl SlF.o) ?_
          refine RG.pv rfl (PV.sub rfl rfl rfl (by omega)) ?_
          refine RG.pv rfl (PV.idxS (j := ws.length - 1) (v := v21) rfl Is24 rfl SlF.o rfl (by first | omega | (simp only [List.length_set]; omega)) (by first | omega | (simp only [List.length_set]; omega))) ?_
          refine RG.pv rfl (PV.loadE rfl Ag31 rfl rfl (El.o (getG (by omega)))) ?_
          refine RG.ot rfl (OT.alloc rfl Zr31 fun b8 => ?_)
          refine RG.ot rfl (OT.storeW (vs := [vi _, .string _]) rfl Sz31 rfl rfl (Cl.c rfl) rfl rfl (OneC.c rfl) ?_)
          refine RG.nil ?_
          refine WP.region ?_
          refine RG.pv rfl (PV.move (v := v21) rfl rfl) ?_
          refine RG.pv rfl (PV.loadW rfl Ag31 rfl rfl) ?_
          refine RG.ot rfl (OT.bslice (F := waiverT) (els := [_]) rfl El24 rfl (by decide) rfl (by decide) ⟨rfl, (Cl.c rfl), trivial⟩ fun v42 => ?_)
          refine RG.ot rfl (OT.append (v := v21) (u := v42) (F := waiverT) rfl El24 rfl (by decide) rfl rfl Rs.o (OneL.c (fun _ => rfl)) rfl (by first | omega | (simp <;> omega)) fun v43 => ?_)
          refine RG.pv rfl (PV.asg (v := v43) rfl rfl) ?_
          refine RG.nil ?_
          refine WP.seq ?_
          refine WP.region ?_
          refine RG.pv rfl (PV.move (v := v43) rfl rfl) ?_
          refine RG.pv rfl (PV.asg (v := v43) rfl rfl) ?_
          refine RG.nil ?_
          refine WP.ret ?_
          exact ⟨_, _, ResV.one rfl rfl, Cv.p, k v43 (ws ++ [gd ws (ws.length - 1)]) (hm.app hml)⟩
        · refine WP.region ?_
          refine RG.pv rfl (PV.move (v := v21) rfl rfl) ?_
          refine RG.pv rfl (PV.idxS (j := 0) (v := v21) rfl Is24 rfl SlF.o rfl (by first | omega | (simp only [List.length_set]; omega)) (by first | omega | (simp only [List.length_set]; omega))) ?_
          refine RG.pv rfl (PV.field rfl Fo31_0 rfl) ?_
          refine RG.ot rfl (OT.storeF (F := waiverT) (val := vi) (cv := fun u => [vi u]) (st := Waiver.s0) rfl Sz2 rfl rfl rfl (Cl.c rfl) rfl (OneC.c rfl) (by exact set_self (by omega)) (by first | omega | (simp; omega)) rfl (fun _ _ => rfl) ?_)
          refine RG.nil ?_
          refine WP.seq ?_
          refine WP.region ?_
          refine RG.pv rfl (PV.move (v := v21) rfl rfl) ?_
          refine RG.pv rfl (PV.asg (v := v21) rfl rfl) ?_
          refine RG.nil ?_
          refine WP.ret ?_
          exact ⟨_, _, ResV.one rfl rfl, Cv.p, k v21 (ws.set 0 (Waiver.s0 (-1) (gd ws 0))) (hm.set 0 (show (gd ws 0).reason.size ≤ 9 from hm _ (gd_mem (by omega))))⟩
theorem insMem {ws : List Waiver} {w : Waiver} {i n : Nat} : ∀ a ∈ ((([] ++ (ws.take i).drop 0) ++ [w]) ++ (ws.take n).drop i), a ∈ ws ∨ a = w := fun a ha => by
  rw [List.mem_append, List.mem_append, List.nil_append, List.drop_zero, List.mem_singleton] at ha
  rcases ha with (h | h) | h
  · exact .inl (List.mem_of_mem_take h)
  · exact .inr h
  · exact .inl (List.mem_of_mem_take (List.mem_of_mem_drop h))
theorem insert_w {v : Value} {ws : List Waiver} {w : Waiver} (h1 : Rs G L waiverT v ws) (hl : ws.length ≤ 10000) (k : ∀ v' ws', ws'.length = ws.length + 1 → (∀ a ∈ ws', a ∈ ws ∨ a = w) → R v' G (osl 31 waiverT v' ws' :: L)) : CallT Tryd.prog 21 #[v, vT waiverT w] G L R := by
  refine CallT.enter (args := _) Tryd.func21 rfl rfl (by kernel_rfl) rfl ?_
  refine WP.seq ?_
  refine WP.region ?_
  refine RG.ot rfl (OT.box (cs := waiverT.enc w) rfl rfl rfl fun b3 => ?_)
  refine RG.pv rfl (PV.asg rfl rfl) ?_
  refine RG.nil ?_
  refine WP.seq ?_
  refine WP.region ?_
  refine RG.pv rfl (PV.mvI (.inr rfl) rfl) ?_
  refine RG.nil ?_
  refine WP.seq ?_
  refine WP.block ?_
  refine WP.loop1 [0, 3] (fun (i : Nat) => i ≤ ws.length) (fun (i : Nat) => [(5, vi i)]) (fun (i : Nat) => blk b3 31 (waiverT.enc w) :: L) (fun (i : Nat) => ws.length - i) 0 (by omega) ⟨rfl, trivial⟩ Cv.p ?_
  rintro i τ hi
  refine WP.seq ?_
  refine WP.seq ?_
  refine WP.regionQ (by kernel_rfl) (by kernel_rfl) ?_
  refine RQ.pv rfl (PV.mvI (.inl rfl) rfl) ?_
  refine RQ.pv rfl (PV.move (v := v) rfl rfl) ?_
  refine RQ.pv rfl (PV.len (v := v) rfl Tryd.underlying24 rfl (SlF.r h1)) ?_
  refine RQ.pv rfl (PV.lss rfl rfl rfl) ?_
  refine RQ.pv rfl (PV.mvB (.inl rfl) rfl) ?_
  refine RQ.gs rfl rfl rfl (fun hp => (PV.move (v := v) rfl rfl)) ?_
  refine RQ.gs rfl rfl rfl (fun hp => (PV.mvI (.inl rfl) rfl)) ?_
  refine RQ.gs rfl rfl rfl (fun hp => (PV.idxS (v := v) rfl Is24 (gs_t hp) (SlF.r h1) (gs_t hp) rfl (by first | omega | (simp at hp; omega)))) ?_
  refine RQ.gs rfl rfl rfl (fun hp => (PV.field rfl Fo31_0 (gs_t hp))) ?_
  refine RQ.gs rfl rfl rfl (fun hp => (PV.loadF rfl Sc2 (gs_t hp) rfl (El.r h1 (getG (by first | omega | (simp at hp; omega)))) rfl)) ?_
  refine RQ.gs rfl rfl rfl (fun hp => (PV.field rfl Fo31_0 rfl)) ?_
  refine RQ.gs rfl rfl rfl (fun hp => (PV.load1 rfl Sc2 (gs_t hp) (Rd.blk rfl))) ?_
  refine RQ.gs rfl rfl rfl (fun hp => (PV.lss rfl (gs_t hp) (gs_t hp))) ?_
  refine RQ.pv rfl (PV.pickA rfl rfl (fun hq => gs_t (geqT hq)) rfl) ?_
  refine RQ.nil ?_
  refine WP.cond rfl (fun h2 => ?_) (fun h2 => ?_)
  · have h3 : i < ws.length := by simp at h2; omega
    refine WP.skip ?_
    refine WP.block ?_
    refine WP.region ?_
    refine RG.pv rfl (PV.mvI (.inl rfl) rfl) ?_
    refine RG.pv rfl (PV.add rfl rfl rfl (by omega)) ?_
    refine RG.pv rfl (PV.mvI (.inr rfl) rfl) ?_
    refine RG.nil ?_
    exact ⟨rfl, i + 1, (by omega), ⟨rfl, trivial⟩, ⟨rfl, rfl, trivial⟩, Cv.p, by omega⟩
  · refine WP.exit ?_
    refine WP.seq ?_
    refine WP.region ?_
    refine RG.ot rfl (OT.bslice (F := waiverT) (els := []) rfl El24 rfl (by decide) rfl (by decide) trivial fun v23 => ?_)
    refine RG.pv rfl (PV.move (v := v) rfl rfl) ?_
    refine RG.pv rfl (PV.mvI (.inl rfl) rfl) ?_
    refine RG.pv rfl (PV.slc (v := v) rfl Is24 rfl (SlF.r h1) optAt.n (optAt.s rfl rfl) (by omega) (by omega)) ?_
    refine RG.ot rfl (OT.append (v := v23) (F := waiverT) rfl El24 rfl (by decide) rfl rfl (Rs.up (Rs.slv (F := waiverT) h1 (by omega) (by omega))) (OneL.c (fun _ => rfl)) rfl (by first | omega | (simp <;> omega)) fun v27 => ?_)
    refine RG.pv rfl (PV.asg (v := v27) rfl rfl) ?_
    refine RG.nil ?_
    refine WP.seq ?_
    refine WP.region ?_
    refine RG.pv rfl (PV.move (v := v27) rfl rfl) ?_
    refine RG.pv rfl (PV.loadW rfl Ag31 rfl rfl) ?_
    refine RG.ot rfl (OT.bslice (F := waiverT) (els := [_]) rfl El24 rfl (by decide) rfl (by decide) ⟨rfl, (Cl.c rfl), trivial⟩ fun v30 => ?_)
    refine RG.ot rfl (OT.append (v := v27) (u := v30) (F := waiverT) rfl El24 rfl (by decide) rfl rfl Rs.o (OneL.c (fun _ => rfl)) rfl (by first | omega | (simp <;> omega)) fun v31 => ?_)
    refine RG.pv rfl (PV.asg (v := v31) rfl rfl) ?_
    refine RG.nil ?_
    refine WP.seq ?_
    refine WP.region ?_
    refine RG.pv rfl (PV.move (v := v31) rfl rfl) ?_
    refine RG.pv rfl (PV.move (v := v) rfl rfl) ?_
    refine RG.pv rfl (PV.mvI (.inl rfl) rfl) ?_
    refine RG.pv rfl (PV.slc (v := v) rfl Is24 rfl (SlF.r h1) (optAt.s rfl rfl) optAt.n (by omega) (by omega)) ?_
    refine RG.ot rfl (OT.append (v := v31) (F := waiverT) rfl El24 rfl (by decide) rfl rfl (Rs.up (Rs.slv (F := waiverT) h1 (by omega) (by omega))) (OneL.c (fun _ => rfl)) rfl (by first | omega | (simp <;> omega)) fun v36 => ?_)
    refine RG.pv rfl (PV.asg (v := v36) rfl rfl) ?_
    refine RG.nil ?_
    refine WP.ret ?_
    exact ⟨_, _, ResV.one rfl rfl, Cv.p, k v36 ((([] ++ (ws.take i).drop 0) ++ [w]) ++ (ws.take ws.length).drop i) (by simp; omega) insMem⟩
theorem RsOk.ins {ws ws' : List Waiver} {w : Waiver} (h : RsOk ws) (hm : ∀ a ∈ ws', a ∈ ws ∨ a = w) (hw : w.reason.size ≤ 9) : RsOk ws' := fun a ha => by
  rcases hm a ha with h1 | h1
  · exact h a h1
  · rw [h1]; exact hw
abbrev rn3 : List ByteArray := [ByteArray.mk #[115, 101, 97, 108], ByteArray.mk #[116, 101, 115, 116, 45, 49], ByteArray.mk #[120]]
theorem rn3_ok {w : Int} (hw : 0 ≤ w ∧ (w < 3 ∨ w = 0)) : (gd rn3 w.toNat).size ≤ 9 := by
  have h5 : w.toNat < 3 := by omega
  have := gd_mem (xs := rn3) (i := w.toNat) h5
  have key : ∀ b ∈ rn3, b.size ≤ 9 := by decide
  exact key _ this
theorem draw0_w {b : Nat} {cv : Value} {bs : List UInt8} {d : Deck} (hcode : SL G byteT cv bs) (k : ∀ v' ws, ws.length ≤ 4 → RsOk ws → R v' G (osl 31 waiverT v' ws :: src b cv :: L)) : CallT Tryd.prog 11 #[.pointer (some ⟨b, 0, none⟩), vT deckT d, .slice none 0 0] G (src b cv :: L) R := by
  have h2 : Rs G L violT (.slice none 0 0) ([] : List Viol) := RsN
  refine CallT.enter (args := _) Tryd.func11 rfl rfl (by kernel_rfl) rfl ?_
  refine WP.seq ?_
  refine WP.region ?_
  refine RG.ot rfl (OT.box (cs := deckT.enc d) rfl rfl rfl fun b4 => ?_)
  refine RG.pv rfl (PV.asg rfl rfl) ?_
  refine RG.nil ?_
  refine WP.seq ?_
  refine WP.region ?_
  refine RG.ot rfl (OT.bslice (F := waiverT) (els := []) rfl El24 rfl (by decide) rfl (by decide) trivial fun v11 => ?_)
  refine RG.pv rfl (PV.asg (v := v11) rfl rfl) ?_
  refine RG.nil ?_
  refine WP.seq ?_
  refine WP.seq ?_
  refine WP.region ?_
  refine RG.pv rfl (PV.move rfl rfl) ?_
  refine RG.callF (vs := [_, _]) rfl rfl En18 rfl (CallT.exC (src b cv) (next_s hcode (by omega) (fun w13 hw13 => ?_)))
  refine RG.pv rfl (PV.mvI (.inr rfl) rfl) ?_
  refine RG.nil ?_
  refine WP.block ?_
  refine WP.loop3 [0, 2, 4] (fun (j : Int) (ws : List Waiver) (q : Value) => (0 ≤ j ∧ j ≤ 3) ∧ (ws.length : Int) + j ≤ 3 ∧ RsOk ws) (fun (j : Int) (ws : List Waiver) (q : Value) => [(8, vi j), (7, q)]) (fun (j : Int) (ws : List Waiver) (q : Value) => osl 31 waiverT q ws :: src b cv :: blk b4 38 (deckT.enc d) :: L) (fun (j : Int) (ws : List Waiver) (q : Value) => j.toNat) w13 [] v11 ⟨by omega, by simp; omega, fun a h => by cases h⟩ ⟨rfl, rfl, trivial⟩ Cv.p ?_
  rintro j ws q τ ⟨hj, hwl, hok⟩
  refine WP.seq ?_
  refine WP.seq ?_
  refine WP.region ?_
  refine RG.pv rfl (PV.mvI (.inl rfl) rfl) ?_
  refine RG.pv rfl (PV.gtr rfl rfl rfl) ?_
  refine RG.nil ?_
  refine WP.cond rfl (fun h3 => ?_) (fun h3 => ?_)
  · have h3 := of_decide_eq_true h3
    refine WP.skip ?_
    refine WP.seq ?_
    refine WP.block ?_
    refine WP.seq ?_
    refine WP.region ?_
    refine RG.pv rfl (PV.move rfl rfl) ?_
    refine RG.callF (vs := [_, _]) rfl rfl En18 rfl (CallT.exC (src b cv) (next_s hcode (by omega) (fun w19 hw19 => ?_)))
    refine RG.ot rfl (OT.bslice (F := strT) (els := [_, _, _]) rfl El50 rfl (by decide) rfl (by decide) ⟨rfl, (Cl.c rfl), ⟨rfl, (Cl.c rfl), ⟨rfl, (Cl.c rfl), trivial⟩⟩⟩ fun v20 => ?_)
    refine RG.pv rfl (PV.move rfl rfl) ?_
    refine RG.callF (vs := [_, _]) rfl rfl En18 rfl (CallT.exC (src b cv) (next_s hcode (by omega) (fun w22 hw22 => ?_)))
    refine RG.pv rfl (PV.idxS (j := w22.toNat) (v := v20) rfl Is50 rfl SlF.o rfl (by first | omega | (simp only [List.length_set]; omega) | (simp only [List.length_cons, List.length_nil]; omega)) (by first | omega | (simp only [List.length_set]; omega) | (simp only [List.length_cons, List.length_nil]; omega))) ?_
    refine RG.pv rfl (PV.loadE1 rfl Sc9 rfl rfl (El.o (getG (by first | omega | (simp only [List.length_cons, List.length_nil]; omega)))) rfl) ?_
    refine RG.pv rfl (PV.build (vs := [(0, [vi _]), (1, [.string _])]) (out := [_, _]) rfl Zr31 Pl31 ⟨rfl, (Cl.c rfl), ⟨rfl, (Cl.c rfl), trivial⟩⟩ rfl) ?_
    refine RG.ot rfl (OT.alloc rfl Zr31 fun b9 => ?_)
    refine RG.ot rfl (OT.storeW (vs := [vi _, .string _]) rfl Sz31 rfl rfl (Cl.c rfl) rfl rfl (OneC.c rfl) ?_)
    refine RG.nil ?_
    refine WP.cut1 [0, 2, 4, 7, 8, 9] (fun (w2 : Waiver) => w2.reason.size ≤ 9) (fun (w2 : Waiver) => []) (fun (w2 : Waiver) => blk b9 31 (waiverT.enc w2) :: osl 31 waiverT q ws :: src b cv :: blk b4 38 (deckT.enc d) :: L) ?_ ?_
    refine WP.seq ?_
    refine WP.region ?_
    refine RG.pv rfl (PV.move rfl rfl) ?_
    refine RG.pv rfl (PV.len rfl Tryd.underlying49 rfl (SlF.r h2)) ?_
    refine RG.pv rfl (PV.gtr rfl rfl rfl) ?_
    refine RG.pv rfl (PV.mvB (.inl rfl) rfl) ?_
    refine RG.spl (t := 29) rfl (fun g1 => ?_) (fun g1 => ?_)
    · exfalso
      have g2 := of_decide_eq_true g1
      simp at g2
    · refine RG.skip rfl rfl rfl (gne g1) ?_
      refine RG.skip rfl rfl rfl (gne g1) ?_
      refine RG.skip rfl rfl rfl (gne g1) ?_
      refine RG.pv rfl (PV.pickE rfl rfl g1 rfl) ?_
      refine RG.nil ?_
      refine WP.cond rfl (fun h4 => ?_) (fun h4 => ?_)
      · cases h4
      · refine WP.skip ?_
        exact ⟨rfl, ⟨w19, gd rn3 w22.toNat⟩, rn3_ok hw22, trivial, ⟨rfl, rfl, rfl, rfl, rfl, rfl, trivial⟩, Cv.p⟩
    rintro w2 τ1 hw2
    refine WP.seq ?_
    refine WP.region ?_
    refine RG.pv rfl (PV.move (v := q) rfl rfl) ?_
    refine RG.pv rfl (PV.field rfl Fo31_0 rfl) ?_
    refine RG.pv rfl (PV.load1 rfl Sc2 rfl (Rd.blk rfl)) ?_
    refine RG.callF (vs := [q, _]) rfl rfl En20 rfl (l22Has_s Rs.o ?_)
    refine RG.pv rfl (PV.not rfl rfl) ?_
    refine RG.nil ?_
    refine WP.cond rfl (fun h5 => ?_) (fun h5 => ?_)
    · refine WP.region ?_
      refine RG.pv rfl (PV.move (v := q) rfl rfl) ?_
      refine RG.pv rfl (PV.loadW rfl Ag31 rfl rfl) ?_
      refine RG.callF (vs := [q, _]) rfl rfl En21 rfl (insert_w (w := w2) Rs.o (by omega) (fun v53 wsv53 hlv53 hmv53 => ?_))
      refine RG.pv rfl (PV.asg (v := v53) rfl rfl) ?_
      refine RG.nil ?_
      refine WP.region ?_
      refine RG.pv rfl (PV.mvI (.inl rfl) rfl) ?_
      refine RG.pv rfl (PV.sub rfl rfl rfl (by first | omega | (simp only [List.length_cons, List.length_nil]; omega))) ?_
      refine RG.pv rfl (PV.mvI (.inr rfl) rfl) ?_
      refine RG.nil ?_
      exact ⟨rfl, j - 1, wsv53, v53, ⟨by omega, by omega, RsOk.ins hok hmv53 hw2⟩, ⟨rfl, rfl, trivial⟩, ⟨rfl, rfl, rfl, trivial⟩, Cv.p, by omega⟩
    · refine WP.skip ?_
      refine WP.region ?_
      refine RG.pv rfl (PV.mvI (.inl rfl) rfl) ?_
      refine RG.pv rfl (PV.sub rfl rfl rfl (by first | omega | (simp only [List.length_cons, List.length_nil]; omega))) ?_
      refine RG.pv rfl (PV.mvI (.inr rfl) rfl) ?_
      refine RG.nil ?_
      exact ⟨rfl, j - 1, ws, q, ⟨by omega, by omega, hok⟩, ⟨rfl, rfl, trivial⟩, ⟨rfl, rfl, rfl, trivial⟩, Cv.p, by omega⟩
  · refine WP.exit ?_
    refine WP.seq ?_
    refine WP.region ?_
    refine RG.pv rfl (PV.move (v := q) rfl rfl) ?_
    refine RG.pv rfl (PV.asg (v := q) rfl rfl) ?_
    refine RG.nil ?_
    refine WP.ret ?_
    exact ⟨_, _, ResV.one rfl rfl, Cv.p, k q ws (by omega) hok⟩
end Go.Proofs.YtpjajhjcbcfplaaDoor
namespace Go.Proofs.YtpjajhjcbcfplaaDoor
set_option linter.unusedVariables false
set_option linter.unusedSimpArgs false
open Go
set_option maxRecDepth 20000
set_option linter.unusedSimpArgs false
set_option linter.unusedVariables false
theorem bef_app {c : UInt8} {r : List UInt8} : ∀ {t : List UInt8}, (∀ x ∈ t, x ≠ c) → bef c (t ++ c :: r) = t
  | [], _ => by rw [List.nil_append, bef_cons, if_pos rfl]
  | b :: t, h => by
    rw [List.cons_append, bef_cons, if_neg (h b (List.mem_cons_self ..)), bef_app fun x hx => h x (List.mem_cons_of_mem _ hx)]
theorem aft_app {c : UInt8} {r t : List UInt8} (h : ∀ x ∈ t, x ≠ c) : aft c (t ++ c :: r) = r := by
  rw [aft, bef_app h, ← List.drop_drop, List.drop_left]; rfl
theorem dg_ne {l : List UInt8} (h : l.all isDg = true) {c : UInt8} (hc : c.toNat < 48) : ∀ x ∈ l, x ≠ c := fun x hx e => by
  have := isDg_iff.1 (List.all_eq_true.1 h x hx)
  rw [e] at this; omega
theorem reason_byte {s : ByteArray} (h : reason s = true) : ∀ x ∈ s.data.toList, reasonByte x = true := fun x hx => by
  obtain ⟨i, hi, e⟩ := List.getElem_of_mem hx
  have hz : s.size = s.data.toList.length := by rw [Array.length_toList]; rfl
  simp only [reason, Bool.and_eq_true, decide_eq_true_eq] at h
  have h2 := h.2 i (by omega)
  rw [← txt_of s, bt_txt, gd_eq hi, e] at h2
  exact h2
theorem rb_ne {x c : UInt8} (h : reasonByte x = true) (hc : c.toNat < 45) : x ≠ c := fun e => by
  subst e
  simp [reasonByte] at h; omega
theorem wl_at {xs : List Waiver} (h : isWL xs = true) {i : Nat} (hi : i < xs.length) : 0 ≤ (gd xs i).sig ∧ (gd xs i).sig ≤ 2147483646 ∧ reason (gd xs i).reason = true ∧ (i ≠ 0 → (gd xs (i - 1)).sig < (gd xs i).sig) := by
  simp only [isWL, Bool.and_eq_true, decide_eq_true_eq] at h
  have h2 := h.2 i hi
  simp only [wlAt, validW, within, Bool.and_eq_true, Bool.or_eq_true, decide_eq_true_eq] at h2
  exact ⟨h2.1.1.1, h2.1.1.2, h2.1.2, fun e => h2.2.resolve_left e⟩
/-- one line -/
theorem line_fmt {out ys : List Waiver} {w : Waiver} (h : isWL (out ++ w :: ys) = true) (r : List UInt8) : (bef 10 (lineB w ++ r)).length < (lineB w ++ r).length ∧ aft 10 (lineB w ++ r) = r ∧ lineC out (bef 10 (lineB w ++ r)) = 0 ∧ lineW (bef 10 (lineB w ++ r)) = w := by
  have hlen : out.length < (out ++ w :: ys).length := by simp
  have hl16 := (wl_facts h).1
  obtain ⟨g1, g2, g3, g4⟩ := wl_at h hlen
  have hw : gd (out ++ w :: ys) out.length = w := by simp [gd]
  rw [hw] at g1 g2 g3 g4
  obtain ⟨d1, d2, d3, d4⟩ := dd_facts w.sig.toNat w.sig.toNat (Nat.le_refl _)
  have hit := itoa_nn g1
  have h10 := decDigits_le 9 w.sig.toNat (by omega)
  have hn32 : ∀ x ∈ Go.Lib.itoa w.sig, x ≠ 32 := by rw [hit]; exact dg_ne d1 (by decide)
  have hn10 : ∀ x ∈ Go.Lib.itoa w.sig, x ≠ 10 := by rw [hit]; exact dg_ne d1 (by decide)
  have hrb := reason_byte g3
  have ht : ∀ x ∈ Go.Lib.itoa w.sig ++ 32 :: w.reason.data.toList, x ≠ 10 := fun x hx => by
    rcases List.mem_append.1 hx with hx | hx
    · exact hn10 x hx
    · rcases List.mem_cons.1 hx with rfl | hx
      · decide
      · exact rb_ne (hrb x hx) (by decide)
  have e : lineB w ++ r = (Go.Lib.itoa w.sig ++ 32 :: w.reason.data.toList) ++ 10 :: r := by simp [lineB]
  have eb : bef 10 (lineB w ++ r) = Go.Lib.itoa w.sig ++ 32 :: w.reason.data.toList := by rw [e, bef_app ht]
  have ea : aft 10 (lineB w ++ r) = r := by rw [e, aft_app ht]
  have e1 : bef 32 (bef 10 (lineB w ++ r)) = Go.Lib.itoa w.sig := by rw [eb, bef_app hn32]
  have e2 : aft 32 (bef 10 (lineB w ++ r)) = w.reason.data.toList := by rw [eb, aft_app hn32]
  have hnum : numC (Go.Lib.itoa w.sig) = true := by
    rw [hit]; exact numC_iff.2 ⟨d4, h10, d1, d3⟩
  have hval : (valD 0 (Go.Lib.itoa w.sig) : Int) = w.sig := by rw [hit, d2]; omega
  refine ⟨?_, ea, ?_, ?_⟩
  · rw [eb, e]; simp
  · rw [line_is (by rw [e1]; exact hnum) (by rw [e2, txt_of]; exact g3), e1, hval, if_neg (by omega), if_neg ?_, if_neg ?_]
    · simp at hl16; omega
    · rintro ⟨p1, p2⟩
      have := g4 (by omega)
      have e3 : gd (out ++ w :: ys) (out.length - 1) = gd out (out.length - 1) := by unfold gd; rw [List.getElem?_append_left (by omega)]
      rw [e3] at this; omega
  · rw [lineW, e1, e2, hval, txt_of]
theorem parse_fmt : ∀ (ys out : List Waiver) (line : Int) (f : Nat), isWL (out ++ ys) = true → ys.length < f → pwR f out line (fmtB ys) = (out ++ ys, 0, 0)
  | [], out, line, f, h, hf => by rw [show fmtB [] = [] from rfl, pwR_nil, List.append_nil]
  | w :: ys, out, line, f, h, hf => by
    obtain ⟨h1, h2, h3, h4⟩ := line_fmt h (fmtB ys)
    have e : fmtB (w :: ys) = lineB w ++ fmtB ys := by simp [fmtB]
    have hne : lineB w ++ fmtB ys ≠ [] := fun g => by rw [g] at h1; simp at h1
    rw [e, pwR_next (by omega) hne h1 h3, h2, h4, parse_fmt ys (out ++ [w]) (line + 1) (f - 1) (by simpa using h) (by simp at hf; omega)]
    simp
theorem fmtB_ge (xs : List Waiver) : xs.length ≤ (fmtB xs).length := by
  induction xs with
  | nil => simp [fmtB]
  | cons w xs ih =>
    have e : fmtB (w :: xs) = lineB w ++ fmtB xs := by simp [fmtB]
    have h : 1 ≤ (lineB w).length := by simp [lineB]; omega
    rw [e, List.length_append, List.length_cons]; omega
theorem pwF_fmt {xs : List Waiver} (h : isWL xs = true) : pwF (fmtB xs) = (xs, 0, 0) := by
  have := parse_fmt xs [] 1 ((fmtB xs).length + 1) h (by have := fmtB_ge xs; omega)
  exact this
end Go.Proofs.YtpjajhjcbcfplaaDoor
namespace Go.Proofs.YtpjajhjcbcfplaaDoor
set_option linter.unusedVariables false
set_option linter.unusedSimpArgs false
open Go
set_option maxRecDepth 20000
set_option maxHeartbeats 1000000
set_option linter.unusedSimpArgs false
theorem toList_ne {a b : ByteArray} (h : ¬ a = b) : ¬ a.toList = b.toList := fun e => h (by
  rw [ByteArray.toList_eq, ByteArray.toList_eq] at e
  obtain ⟨⟨x⟩⟩ := a
  obtain ⟨⟨y⟩⟩ := b
  have e' : x = y := e
  rw [e'])
theorem Eq31 : EqT Tryd.prog 31 waiverT := ⟨by kernel_rfl, fun a b w => by
  rw [eqT_run 9999 _ _ w Tryd.underlying31 (by kernel_rfl)]
  obtain ⟨a0, a1⟩ := a; obtain ⟨b0, b1⟩ := b
  simp only [waiverT]
  simp [Op.eqFields, part, isAgg, run_underlying Tryd.underlying2, run_equalIn_int _ _ _ _ _ _ _ Tryd.underlying2, run_underlying Tryd.underlying9, run_equalIn_string _ _ _ _ _ Tryd.underlying9]
  by_cases e0 : a0 = b0 <;> by_cases e1 : a1 = b1 <;> simp_all [toList_ne]⟩
variable {G : Gh} {L : List Ch} {R : Value → Gh → List Ch → Prop}
theorem dFW_s {cv : Value} {bs : List UInt8} (hcode : SL G byteT cv bs) (k : ∀ v ws, RsOk ws → R v G (osl 31 waiverT v ws :: L)) : CallT Tryd.prog 5 #[cv] G L R := by
  refine CallT.enter (args := _) Tryd.func5 rfl rfl (by kernel_rfl) rfl ?_
  refine WP.seq ?_
  refine WP.region ?_
  refine RG.pv rfl (PV.asg rfl rfl) ?_
  refine RG.nil ?_
  refine WP.seq ?_
  refine WP.region ?_
  refine RG.pv rfl (PV.move (v := cv) rfl rfl) ?_
  refine RG.callF (vs := [cv]) rfl rfl En9 rfl (from_s hcode (fun b => ?_))
  refine RG.pv rfl (PV.asg rfl rfl) ?_
  refine RG.nil ?_
  refine WP.seq ?_
  refine WP.region ?_
  refine RG.pv rfl (PV.move rfl rfl) ?_
  refine RG.pv rfl (PV.move rfl rfl) ?_
  refine RG.pv rfl (PV.build (vs := []) (out := [_]) rfl Zr38 Pl38 trivial rfl) ?_
  refine RG.callF (vs := [_, _, _]) rfl rfl En11 rfl (CallT.exC (src b cv) (draw0_w (d := ⟨⟨.slice none 0 0, []⟩⟩) hcode (fun v9 wsv9 hlv9 hmv9 => ?_)))
  refine RG.callF (vs := [_, v9, _]) rfl rfl En10 rfl (CallT.exC (src b cv) (CallT.exS v9 (spoilWaivers_w hcode (by omega) (by omega) hmv9 (fun v10 wsv10 hmv10 => ?_))))
  refine RG.pv rfl (PV.asg (v := v10) rfl rfl) ?_
  refine RG.nil ?_
  refine WP.ret ?_
  exact ⟨_, _, ResV.one rfl rfl, Cv.p, k v10 wsv10 hmv10⟩
theorem fmtW_v {v : Value} {xs : List Waiver} (hL : Ld G) (h1 : Rs G L waiverT v xs) (hlen : ∀ i, i < xs.length → (gd xs i).reason.size ≤ 9223372036854775807) (hw : isWL xs = true) (k : R (.string (txt (fmtB xs))) G L) : CallT Tryd.prog 8 #[v] G L R :=
  fmtW_i hL h1 hlen (by rw [fmtW, if_pos hw]; exact k)
theorem law_WaiverText {cv : Value} {bs : List UInt8} (hL : Lp G) (hcode : SL G byteT cv bs) (k : R (.bool true) G L) : CallT Tryd.prog 3 #[cv] G L R := by
  refine CallT.enter (args := _) Tryd.func3 rfl rfl (by kernel_rfl) rfl ?_
  refine WP.seq ?_
  refine WP.region ?_
  refine RG.pv rfl (PV.mvB (.inr rfl) rfl) ?_
  refine RG.nil ?_
  refine WP.seq ?_
  refine WP.seq ?_
  refine WP.region ?_
  refine RG.pv rfl (PV.move (v := cv) rfl rfl) ?_
  refine RG.callF (vs := [cv]) rfl rfl En4 rfl (big_s hcode ?_)
  refine RG.nil ?_
  refine WP.cond rfl (fun h0 => ?_) (fun h0 => ?_)
  · refine WP.seq ?_
    refine WP.region ?_
    refine RG.pv rfl (PV.mvB (.inr rfl) rfl) ?_
    refine RG.nil ?_
    refine WP.ret ?_
    exact ⟨_, _, ResV.one rfl rfl, Cv.p, k⟩
  · skip
    refine WP.skip ?_
    refine WP.seq ?_
    refine WP.region ?_
    refine RG.pv rfl (PV.move (v := cv) rfl rfl) ?_
    refine RG.callF (vs := [cv]) rfl rfl En5 rfl (dFW_s hcode (fun v11 ws hm => have hlen : ∀ i, i < ws.length → (gd ws i).reason.size ≤ 9223372036854775807 := (fun i hi => by have := hm _ (gd_mem hi); omega); ?_))
    refine RG.pv rfl (PV.asg (v := v11) rfl rfl) ?_
    refine RG.nil ?_
    refine WP.seq ?_
    refine WP.seq ?_
    refine WP.region ?_
    refine RG.pv rfl (PV.move (v := v11) rfl rfl) ?_
    refine RG.callF (vs := [v11]) rfl rfl En6 rfl (isWL_s' Rs.o hlen ?_)
    refine RG.pv rfl (PV.not rfl rfl) ?_
    refine RG.nil ?_
    refine WP.cond rfl (fun h1 => ?_) (fun h1 => ?_)
    · refine WP.seq ?_
      refine WP.region ?_
      refine RG.pv rfl (PV.mvB (.inr rfl) rfl) ?_
      refine RG.nil ?_
      refine WP.ret ?_
      exact ⟨_, _, ResV.one rfl rfl, Cv.p, k⟩
    · have h1 : isWL ws = true := by simpa using h1
      have hw16 := (wl_facts h1).1
      have hfl := fmtB_len h1 ws.length
      rw [List.take_length] at hfl
      have hfw : fmtW ws = txt (fmtB ws) := by rw [fmtW, if_pos h1]
      have hpf := pwF_fmt h1
      refine WP.skip ?_
      refine WP.seq ?_
      refine WP.region ?_
      refine RG.pv rfl (PV.move (v := v11) rfl rfl) ?_
      refine RG.callF (vs := [v11]) rfl rfl En8 rfl (fmtW_v hL.toLd Rs.o hlen h1 ?_)
      refine RG.callF (vs := [_]) rfl rfl En7 rfl (parse_i hL (by omega) (fun w18 => ?_))
      refine RG.pv rfl (PV.move (v := .tuple _) rfl rfl) ?_
      refine RG.pv rfl (PV.ext (v := w18) rfl rfl rfl) ?_
      refine RG.pv rfl (PV.ext rfl rfl rfl) ?_
      refine RG.pv rfl (PV.ext rfl rfl rfl) ?_
      refine RG.pv rfl (PV.asg (v := w18) rfl rfl) ?_
      refine RG.pv rfl (PV.mvI (.inr rfl) rfl) ?_
      refine RG.pv rfl (PV.mvI (.inr rfl) rfl) ?_
      refine RG.nil ?_
      refine WP.seq ?_
      refine WP.seq ?_
      refine WP.region ?_
      refine RG.pv rfl (PV.mvI (.inl rfl) rfl) ?_
      refine RG.pv rfl (PV.neq rfl rfl rfl) ?_
      refine RG.pv rfl (PV.mvB (.inl rfl) rfl) ?_
      refine RG.gs rfl rfl rfl (fun hp => (PV.mvI (.inl rfl) rfl)) ?_
      refine RG.gs rfl rfl rfl (fun hp => (PV.neq rfl (gs_t hp) rfl)) ?_
      refine RG.pv rfl (PV.pickO rfl rfl rfl (fun hq => gs_t (geqF hq))) ?_
      refine RG.pv rfl (PV.mvB (.inl rfl) rfl) ?_
      refine RG.gs rfl rfl rfl (fun hp => (PV.move (v := w18) rfl rfl)) ?_
      refine RG.gs rfl rfl rfl (fun hp => (PV.len (v := w18) rfl Tryd.underlying24 (gs_t hp) SlF.o)) ?_
      refine RG.gs rfl rfl rfl (fun hp => (PV.move (v := v11) rfl rfl)) ?_
      refine RG.gs rfl rfl rfl (fun hp => (PV.len (v := v11) rfl Tryd.underlying24 (gs_t hp) SlF.o)) ?_
      refine RG.gs rfl rfl rfl (fun hp => (PV.neq rfl (gs_t hp) (gs_t hp))) ?_
      refine RG.pv rfl (PV.pickO rfl rfl rfl (fun hq => gs_t (geqF hq))) ?_
      refine RG.nil ?_
      rw [hpf]
      refine WP.cond rfl (fun h2 => ?_) (fun h2 => ?_)
      · simp at h2
      · refine WP.skip ?_
        refine WP.seq ?_
        refine WP.seq ?_
        refine WP.region ?_
        refine RG.pv rfl (PV.mvI (.inr rfl) rfl) ?_
        refine RG.nil ?_
        refine WP.block ?_
        refine WP.loop1 [3, 4] (fun i => i ≤ ws.length) (fun i => [(7, vi i)]) (fun i => osl 31 waiverT w18 ws :: osl 31 waiverT v11 ws :: L) (fun i => ws.length - i) 0 (by omega) ⟨rfl, trivial⟩ Cv.p ?_
        rintro i τ hi
        refine WP.seq ?_
        refine WP.seq ?_
        refine WP.region ?_
        refine RG.pv rfl (PV.mvI (.inl rfl) rfl) ?_
        refine RG.pv rfl (PV.move (v := v11) rfl rfl) ?_
        refine RG.pv rfl (PV.len (v := v11) rfl Tryd.underlying24 rfl SlF.o) ?_
        refine RG.pv rfl (PV.lss rfl rfl rfl) ?_
        refine RG.nil ?_
        refine WP.cond rfl (fun h3 => ?_) (fun h3 => ?_)
        · have h3 := of_decide_eq_true h3
          have h4 : i < ws.length := by omega
          refine WP.skip ?_
          refine WP.seq ?_
          refine WP.block ?_
          refine WP.seq ?_
          refine WP.regionQ (by kernel_rfl) (by kernel_rfl) ?_
          refine RQ.pv rfl (PV.move (v := w18) rfl rfl) ?_
          refine RQ.pv rfl (PV.mvI (.inl rfl) rfl) ?_
          refine RQ.pv rfl (PV.idxS (v := w18) rfl Is24 rfl SlF.o rfl rfl (by omega)) ?_
          refine RQ.pv rfl (PV.loadE rfl Ag31 rfl rfl (El.o (getG (by omega)))) ?_
          refine RQ.pv rfl (PV.move (v := v11) rfl rfl) ?_
          refine RQ.pv rfl (PV.mvI (.inl rfl) rfl) ?_
          refine RQ.pv rfl (PV.idxS (v := v11) rfl Is24 rfl SlF.o rfl rfl (by omega)) ?_
          refine RQ.pv rfl (PV.loadE rfl Ag31 rfl rfl (El.o (getG (by omega)))) ?_
          refine RQ.pv rfl (PV.neqT rfl Eq31 rfl rfl) ?_
          refine RQ.nil ?_
          refine WP.cond rfl (fun h5 => ?_) (fun h5 => ?_)
          · simp at h5
          · refine WP.skip ?_
            refine WP.region ?_
            refine RG.pv rfl (PV.mvI (.inl rfl) rfl) ?_
            refine RG.pv rfl (PV.add rfl rfl rfl (by omega)) ?_
            refine RG.pv rfl (PV.mvI (.inr rfl) rfl) ?_
            refine RG.nil ?_
            exact ⟨rfl, i + 1, (by omega), ⟨rfl, trivial⟩, ⟨rfl, rfl, trivial⟩, Cv.p, by omega⟩
        · refine WP.exit ?_
          refine WP.seq ?_
          refine WP.region ?_
          refine RG.pv rfl (PV.mvB (.inr rfl) rfl) ?_
          refine RG.nil ?_
          refine WP.ret ?_
          exact ⟨_, _, ResV.one rfl rfl, Cv.p, k⟩
end Go.Proofs.YtpjajhjcbcfplaaDoor
namespace Go.Proofs.YtpjajhjcbcfplaaDoor
set_option linter.unusedVariables false
set_option linter.unusedSimpArgs false
open Go Go.ChangeShapes Go.WideShapes Go.ChangeAt Go.RowKit Go.Deep
set_option linter.unusedVariables false
set_option linter.unusedSimpArgs false
theorem law_laid2 {H : Type} {enc : TypeId × Value → H} {C : Checked} {os : Os} {f : FuncId} {fn : Func} {s : ChangeSpec} {tb : TypeId} {X : World → Array Value → Prop} (hX : ∀ (w w' : World) (args : Array Value), w.heap = w'.heap → X w args → X w' args)
    (own : ownKnob C.prog.godebug = none) (started : os.Started) (noInit : C.prog.inits.idxOf? f = none) (hfn : C.prog.funcs[f]? = some fn) (hl : laidOutB C.prog = true)
    (hvars : s.vars = []) (hr : recsB C.prog fn.params.toList = true) (hres : fn.resultTypes = #[tb]) (htb : C.prog.underlying tb = some .bool)
    (hsp : ∀ ds : List (DataW H), ds.length = fn.params.toList.length → s.fn H ds = { results := [.lit (.bool true)], args := ds })
    (witness : ∃ (w : World) (tape : Tape) (i : Input), w.os = os ∧ (w.forCall tape i).Shaped C.prog ∧ i.vars = [] ∧ Input.okWide C.prog (w.forCall tape i) .any w.heap.size f i ∧
      ((s.pre enc C.prog fn [] false (w.forCall tape i).memory i.args ∧ X (w.forCall tape i).memory i.args) ∧ sizedMet enc C.prog fn (OpenSpec.ofChange s) false (w.forCall tape i).memory i.args) ∧ ({} : Assume).holds C.prog (lone (Frame.enter C.prog f i.args .normal) [] (w.forCall tape i)))
    (walk : ∀ (W : World) (base : Nat) (args : Array Value) (ds : List (DataW H)) (ps : List MemPlace), (∀ (j : Nat) t v, fn.params[j]? = some t → args[j]? = some v → Value.okWide C.prog W .any base t v) →
      DataW.TrodAll enc C.prog W 0 (fun _ => true) true fn.params.toList args.toList ds ps → X W args → W.ShapedOpen C.prog → CallT C.prog f args (G0 W) [] fun v G _ => v = .bool true ∧ Gh.le (G0 W) G) :
    ReturnsInHanded {} C os f .any (fun w args => (s.pre enc C.prog fn [] false w args ∧ X w args) ∧ sizedMet enc C.prog fn (OpenSpec.ofChange s) false w args) (s.post enc C.prog fn false true false false) := by
  refine returnsInHanded_of_calls own started noInit witness ?_
  intro w tape i _ hsh _ hok hpre hholds
  obtain ⟨_, _, _, fn', hfn', _, _, _, _, hval⟩ := hok
  have e : fn' = fn := Option.some.inj (hfn'.symm.trans hfn)
  subst e
  obtain ⟨⟨⟨ds, gs, before, hw, hc⟩, hx⟩, hz⟩ := hpre
  have hW0 := DataW.Whole.of_heap (w' := w.forCall tape i) (by rfl) hw
  have hXW : X (w.forCall tape i) i.args := hX _ _ _ (by rfl) hx
  suffices hS : Calls C.prog f i.args (w.forCall tape i) fun e W' => ∃ v, e = .returned v ∧ s.post enc C.prog fn' false true false false (w.forCall tape i) i.args v W' by
    refine hS.mono fun e W' ⟨v, he, hp⟩ => ?_
    subst he
    exact ChangeSpec.post_blind hp
  generalize w.forCall tape i = W at *
  generalize i.args = args at *
  have hW' := hW0
  obtain ⟨p, q, hA, hV, rfl, hfz, hnd⟩ := hW0
  rw [hvars] at hV
  obtain ⟨rfl, rfl⟩ := trodVars_none hV
  refine ((walk W _ args ds p hval hA hXW hsh).run (St.start0 W)).mono ?_
  rintro e W' ⟨v, G, L, rfl, hs, rfl, hG⟩
  have hb := hs.below0 hG
  have hlt : ∀ x ∈ p, x.block < W.heap.size := fun x hx => hW'.lt x (List.mem_append_left _ hx)
  have hlen : ds.length = fn'.params.toList.length := by
    have : ∀ (ts : List TypeId) (vs : List Value) (ds : List (DataW H)) (ps : List MemPlace), DataW.TrodAll enc C.prog W 0 (fun _ => true) true ts vs ds ps → ds.length = ts.length := by
      intro ts
      induction ts with
      | nil => intro vs ds ps h; cases vs <;> cases ds <;> simp_all [DataW.TrodAll]
      | cons t ts ih =>
        intro vs ds ps h
        cases vs <;> cases ds <;> simp only [DataW.TrodAll] at h
        obtain ⟨_, _, _, h2, _⟩ := h
        simp [ih _ _ _ h2]
    exact this _ _ _ _ hA
  refine ⟨_, rfl, ds, [], _, [], p, [], hW', ?_, ?_, ?_, hb.frame _, fun h => by cases h⟩
  · rw [List.append_nil, hsp ds hlen, hres]
    exact trodAll_mk1 (shut_bool htb true)
  · rw [List.append_nil, hsp ds hlen]
    exact trodAll_stays hl hb (recs_of hr) hlt hA
  · rw [List.append_nil, hsp ds hlen, hvars]
    exact rfl
end Go.Proofs.YtpjajhjcbcfplaaDoor
namespace Go.Proofs.YtpjajhjcbcfplaaDoor
set_option linter.unusedVariables false
set_option linter.unusedSimpArgs false
open Go Go.Shelf
def cutM_ren : Go.Shelf.Ren := ⟨fun | 145 => 13 | 220 => 24 | 219 => 31 | 217 => 41 | 225 => 42 | 224 => 43 | 267 => 44 | 266 => 60 | 314 => 61 | n => n, fun | 9 => 9 | 4 => 4 | 59 => 40 | 3 => 3 | 5 => 5 | 46 => 77 | 146 => 94 | 51 => 93 | n => n, fun | 1 => 0 | n => n⟩
theorem cutM : Go.Proofs.LaysM.n145 Tryd.prog cutM_ren := {
  mixed := by kernel_rfl
  f145 := Tryd.func13.trans (congrArg some (by kernel_rfl))
  f217 := Tryd.func41.trans (congrArg some (by kernel_rfl))
  f219 := Tryd.func31.trans (congrArg some (by kernel_rfl))
  f220 := Tryd.func24.trans (congrArg some (by kernel_rfl))
  f224 := Tryd.func43.trans (congrArg some (by kernel_rfl))
  f225 := Tryd.func42.trans (congrArg some (by kernel_rfl))
  f266 := Tryd.func60.trans (congrArg some (by kernel_rfl))
  f267 := Tryd.func44.trans (congrArg some (by kernel_rfl))
  f314 := Tryd.func61.trans (congrArg some (by kernel_rfl))
  t3 := Tryd.underlying3
  a3 := Tryd.isAgg3
  z3 := Tryd.sizeOf3
  v3 := Tryd.zeroValue3
  t4 := Tryd.underlying4
  a4 := Tryd.isAgg4
  z4 := Tryd.sizeOf4
  v4 := Tryd.zeroValue4
  t5 := Tryd.underlying5
  a5 := Tryd.isAgg5
  z5 := Tryd.sizeOf5
  v5 := Tryd.zeroValue5
  t9 := Tryd.underlying9
  a9 := Tryd.isAgg9
  z9 := Tryd.sizeOf9
  v9 := Tryd.zeroValue9
  t46 := Tryd.underlying77
  a46 := Tryd.isAgg77
  z46 := Tryd.sizeOf77
  v46 := Tryd.zeroValue77
  t51 := Tryd.underlying93
  a51 := Tryd.isAgg93
  z51 := Tryd.sizeOf93
  v51 := Tryd.zeroValue93
  t59 := Tryd.underlying40
  a59 := Tryd.isAgg40
  z59 := Tryd.sizeOf40
  v59 := Tryd.zeroValue40
  t146 := Tryd.underlying94
  a146 := Tryd.isAgg94
  z146 := Tryd.sizeOf94
  v146 := Tryd.zeroValue94
  g1 := by kernel_rfl
  i3 := by kernel_rfl
  i4 := by kernel_rfl
  i5 := by kernel_rfl
  i9 := by kernel_rfl
  i46 := by kernel_rfl
  i51 := by kernel_rfl
  i59 := by kernel_rfl
  i146 := by kernel_rfl
  m1 := by kernel_rfl
  s1_3 := fun w h => Go.Proofs.cell_of_shapedOpen_int (zero := #[.int .i64 0]) (t := 3) h (of_decide_eq_true (by kernel_rfl)) (by kernel_rfl) rfl (by kernel_rfl) (by kernel_rfl) Tryd.underlying3 }
end Go.Proofs.YtpjajhjcbcfplaaDoor
namespace Go.Proofs.YtpjajhjcbcfplaaDoor
set_option linter.unusedVariables false
set_option linter.unusedSimpArgs false
open Go Go.ChangeShapes Go.WideShapes Go.ChangeAt Go.RowKit
set_option linter.unusedSimpArgs false
def okU8 (_ : Gh) (_ : UInt8) : Prop := True
theorem opnU8 {P : Program} {t : TypeId} (ht : P.underlying t = some (.int .u8)) : Opn P t byteT okU8 := fun h => by
  obtain ⟨n, rfl, _, hw⟩ := DataW.trod_int ht h
  have : IntKind.u8.min ≤ n ∧ n ≤ IntKind.u8.max := by simpa [Lit.wf] using hw
  simp only [show IntKind.u8.min = 0 from rfl, show IntKind.u8.max = 255 from rfl] at this
  refine ⟨UInt8.ofNat n.toNat, ?_, trivial⟩
  simp only [byteT, UInt8.toNat_ofNat']
  congr 2
  omega
set_option maxRecDepth 100000
theorem Tryd.own : ownKnob Tryd.prog.godebug = none := by kernel_rfl
theorem Tryd.laidOut : laidOutB Tryd.prog = true := by kernel_rfl
def laidP : List (String × DataW Unit) := [("math/bits.deBruijn32tab", Rows.laid_math_bits_deBruijn32tab), ("math/bits.deBruijn64tab", Rows.laid_math_bits_deBruijn64tab), ("internal/strconv.uint64pow10", Rows.laid_internal_strconv_uint64pow10), ("strconv.ErrRange", Rows.laid_strconv_ErrRange), ("strconv.ErrSyntax", Rows.laid_strconv_ErrSyntax)]
theorem gPow : Tryd.prog.globalNamed "internal/strconv.uint64pow10" = some 3 := by kernel_rfl
theorem tPow : (Tryd.prog.globals[3]?).map (·.type) = some 102 := by kernel_rfl
theorem gSyn : Tryd.prog.globalNamed "strconv.ErrSyntax" = some 1 := by kernel_rfl
theorem tSyn : (Tryd.prog.globals[1]?).map (·.type) = some 59 := by kernel_rfl
theorem gRan : Tryd.prog.globalNamed "strconv.ErrRange" = some 2 := by kernel_rfl
theorem tRan : (Tryd.prog.globals[2]?).map (·.type) = some 59 := by kernel_rfl
theorem starE : "*" ++ "errors.errorString" = "*errors.errorString" := by decide
theorem rowE (u : TypeId) (h : Tryd.prog.typeName? 3 u = some "*errors.errorString") : u = 122 :=
  typeName_ptr_named (nm := "errors.errorString") (by rw [starE]; kernel_rfl) (by kernel_rfl) (by decide) u (by rw [starE]; exact h)
theorem cellsE : Tryd.prog.cellsOf 124 = 1 := by kernel_rfl
theorem cellsS : Tryd.prog.cellsOf 9 = 1 := by kernel_rfl
theorem lp_of {W : World} (h : laidMetH Tryd.prog laidP W) (hsh : W.ShapedOpen Tryd.prog) : Lp (G0 W) := by
  rw [MakeChecks.laidMetH_plain _ _ _ (by kernel_rfl)] at h
  have e : (Rows.laid_internal_strconv_uint64pow10 : DataW Unit) = Go.Lib.tabData .u64 Go.Lib.pow10Tab := by rfl
  have h2 := h.tail.tail
  have h4 := h2.tail
  rw [e] at h2
  have h3 := Go.Lib.tabIs_of_head gPow tPow Tryd.underlying102 Tryd.underlying79 (by kernel_rfl) (by kernel_rfl) h2
  obtain ⟨a0, sa, hva, -, -, -⟩ := laid_sentinel h4 gRan tRan Tryd.underlying59 rowE Tryd.underlying122 Tryd.underlying124 rfl rfl Tryd.underlying9 cellsE cellsS
  obtain ⟨b0, sb, hvb, -, -, -⟩ := laid_sentinel h4.tail gSyn tSyn Tryd.underlying59 rowE Tryd.underlying122 Tryd.underlying124 rfl rfl Tryd.underlying9 cellsE cellsS
  obtain ⟨m, hm⟩ := cutM.s1_3 W hsh
  refine ⟨⟨rfl, fun L w hs => var_later h3 hs⟩, fun L w hs => ⟨m, ?_⟩, fun L w hs => ⟨_, _, var_later hvb hs⟩, fun L w hs => ⟨_, _, var_later hva hs⟩⟩
  have hb := hs.below0 (Gh.le_refl _)
  have hlt : (cutM_ren.g 1) < W.heap.size := Go.Lib.lt_of_cell hm
  exact (hb.cell (p := ⟨cutM_ren.g 1, 0, none⟩) hlt).trans hm
theorem waiverText_met (os : Os) (args : Array Value) : laidMetH Tryd.prog laidP ((World.doorLaid Tryd.prog 400 os).forCall (fun _ _ => 0) ⟨#[], args, []⟩).memory :=
  laidMetH_of_parts3 (fuel := 8) (laidMet_of_run' 8 (by kernel_rfl) (by kernel_rfl)) (by kernel_rfl) (by kernel_rfl)
theorem waiverText_lifted (os : Os) (started : os.Started) (H : Type) (enc : TypeId × Value → H) :
    ReturnsInHanded {} Tryd.checked os 3 .any (fun w args => (Rows.fnWaiverTextSpec.pre enc Tryd.prog Tryd.f3 [] false w args ∧ laidMetH Tryd.prog laidP w) ∧ sizedMet enc Tryd.prog Tryd.f3 (OpenSpec.ofChange Rows.fnWaiverTextSpec) false w args) (Rows.fnWaiverTextSpec.post enc Tryd.prog Tryd.f3 false true false false) := by
  refine law_laid2 (C := Tryd.checked) (X := fun w _ => laidMetH Tryd.prog laidP w) (fun _ _ _ hh h => h.of_heap hh) Tryd.own started (by kernel_rfl) Tryd.func3 Tryd.laidOut rfl (by kernel_rfl) rfl Tryd.underlying4 (fun ds h => ?_)
    (ChangeSpec.witness_shaped (enc := enc) (C := Tryd.checked) (os := os) (X := fun w _ => laidMetH Tryd.prog laidP w) false (World.doorLaid Tryd.prog 400 os) #[.slice none 0 0] 8 rfl (World.shaped_of_RefB (by kernel_rfl) (by kernel_rfl)) (by kernel_rfl) (by kernel_rfl) (by kernel_rfl) (waiverText_met os _)) ?_
  · match ds, h with
    | [d], _ => rfl
  · intro W base args ds ps hval hA hLd hsh
    have hA : DataW.TrodAll enc Tryd.prog W 0 (fun _ => true) true Tryd.f3.params.toList args.toList ds ps := hA
    have hval : ∀ (j : Nat) t v, Tryd.f3.params[j]? = some t → args[j]? = some v → Value.okWide Tryd.prog W .any base t v := hval
    rw [Tryd.params3] at hA hval
    obtain ⟨v0, d0, rfl, rfl, h0⟩ := trodAll_one hA
    obtain ⟨s, rfl, q1, _⟩ := argSl Tryd.underlying22 (opnSl (F := byteT) (ok := okU8) Tryd.underlying22 (opnU8 Tryd.underlying5) (by kernel_rfl) (by decide)) (hval 0 _ v0 rfl rfl) h0
    exact law_WaiverText (G := G0 W) (lp_of hLd hsh) ⟨q1.1, q1.2⟩ ⟨rfl, Gh.le_refl _⟩
theorem waiverText_said : Rows.FnWaiverTextSaid :=
  OpenClaim.holds_of_wide 3 Tryd.f3 rfl rfl rfl rfl rfl rfl rfl ⟨rfl, rfl, rfl, rfl, rfl⟩ rfl rfl rfl rfl rfl (by kernel_rfl) Tryd.func3 (by kernel_rfl)
    (of_decide_eq_true (by kernel_rfl)) (by unfold Func.isWrapper; first | (rw [if_pos (by decide +kernel)]; kernel_rfl) | (rw [if_neg (by decide +kernel)]; exact ⟨rfl, rfl⟩))
    (fun os started H enc _ => waiverText_lifted os started H enc)
theorem waiverText_holds : Rows.FnWaiverTextCardSaid :=
  Claim7.holds_tied_plain_at .later [] [.data, .data, .data, .sentinel, .sentinel] true (true, "9c1fc2077e215cb2770ab3ec9b5903eab956e1e6d6ddd27808d339f6c9b8448c") true
    waiverText_said (fun _ h => by cases h) (by kernel_rfl) (fun _ h => by cases h) fnWaiverText_row_tie rfl ⟨rfl, rfl⟩ (by kernel_rfl) rfl
    (fun f fn hf hfn => by
      obtain rfl : f = 3 := Option.some.inj ((show Tryd.prog.funcNamed "loop.example/g00890/laws.FnWaiverText" = some 3 by kernel_rfl).symm.trans hf) |>.symm
      obtain rfl : fn = Tryd.f3 := (Option.some.inj (Tryd.func3.symm.trans hfn)).symm
      exact ⟨by kernel_rfl, fun j t ht => by
        rw [Tryd.params3] at ht
        have hm : t ∈ [22] := by simpa using Array.mem_of_getElem? ht
        have hall : ([22].all fun u => !Tryd.prog.wantsStandIn u) = true := by kernel_rfl
        exact (show Tryd.prog.wantsStandIn t = false by simpa using List.all_eq_true.1 hall t hm)⟩)
    (by kernel_rfl)
end Go.Proofs.YtpjajhjcbcfplaaDoor
