/-
  Contracts of functions and plain facts that the last text of this folder uses, part 5.
-/
import Derived.Test.YtgphjofccckloaaGreatHD4
namespace Go.Proofs.YtgphjofccckloaaGreat
set_option linter.unusedVariables false
set_option linter.unusedSimpArgs false
open Go
set_option maxRecDepth 20000
set_option linter.unusedSimpArgs false
variable {G : Gh} {L : List Ch} {R : Value → Gh → List Ch → Prop}
def nameByte (c : UInt8) : Bool := decide (97 ≤ c.toNat) && decide (c.toNat ≤ 122) || decide (48 ≤ c.toNat) && decide (c.toNat ≤ 57)
def isName (s : ByteArray) : Bool := decide (1 ≤ s.size) && decide (s.size ≤ 8) && decide (∀ i, i < s.size → nameByte (bt s i) = true)
theorem isName_all {s : ByteArray} (h : ∀ i, i < s.size → nameByte (bt s i) = true) : isName s = (decide (1 ≤ (s.size : Int)) && decide ((s.size : Int) ≤ 8)) := by
 simp only [isName, decide_eq_true h, Bool.and_true]
 congr 1 <;> (rw [decide_eq_decide]; omega)
theorem isName_not {s : ByteArray} {i : Nat} (h : i < s.size) (e : nameByte (bt s i) = false) : isName s = false := by
 simp only [isName, Bool.and_eq_false_iff, decide_eq_false_iff_not]
 exact .inr fun hh => by rw [hh i h] at e; cases e
theorem isName_i {s : ByteArray} (hs : s.size ≤ 9223372036854775807) (k : R (.bool (isName s)) G L) : CallT Tryz.prog 148 #[.string s] G L R := by
 refine CallT.enter (args := _) Tryz.func148 rfl rfl (by kernel_rfl) rfl ?_
 refine WP.seq (WP.region (RG.br rfl rfl rfl (RG.nil (WP.seq (WP.seq (WP.region (RG.mr rfl rfl rfl ?_)))))))
 refine RG.nil (WP.block ?_)
 refine WP.loop1 [0] (fun i => i ≤ s.size ∧ ∀ j, j < i → nameByte (bt s j) = true) (fun i => [(3, vi i)]) (fun i => L) (fun i => s.size - i) 0 ⟨by omega, fun j h => by omega⟩ ⟨rfl, trivial⟩ Cv.p ?_
 rintro i τ ⟨hi, hb⟩
 refine WP.seq (WP.seq (WP.region (RG.ml rfl rfl rfl (RG.pv rfl (PV.mvS (.inl rfl) rfl) (RG.pv rfl (PV.lenS rfl Tryz.underlying9 rfl) (RG.pv rfl (PV.lss rfl rfl rfl) (RG.nil ?_)))))))
 refine WP.cond rfl (fun h1 => ?_) (fun h1 => ?_)
 · have h1 := of_decide_eq_true h1
   refine WP.skip (WP.seq (WP.block (WP.seq (WP.region (RG.pv rfl (PV.mvS (.inl rfl) rfl) (RG.ml rfl rfl rfl (RG.pv rfl (PV.idxStr rfl Tryz.underlying9 rfl rfl rfl (getBG (by omega))) ?_)))))))
   refine RG.pv rfl (PV.lss rfl rfl rfl) (RG.bl rfl rfl rfl ?_)
   refine RG.gs rfl rfl rfl (fun hp => (PV.mvS (.inl rfl) rfl)) ?_
   refine RG.gs rfl rfl rfl (fun hp => (PV.mvI (.inl rfl) rfl)) ?_
   refine RG.gs rfl rfl rfl (fun hp => (PV.idxStr rfl Tryz.underlying9 (gs_t hp) (gs_t hp) rfl (getBG (by first | omega | (simp at hp; omega))))) ?_
   refine RG.gs rfl rfl rfl (fun hp => (PV.gtr rfl (gs_t hp) rfl)) ?_
   refine RG.pv rfl (PV.pickO rfl rfl rfl (fun hq => gs_t (geqF hq))) (RG.bl rfl rfl rfl ?_)
   refine RG.gs rfl rfl rfl (fun hp => (PV.mvS (.inl rfl) rfl)) ?_
   refine RG.gs rfl rfl rfl (fun hp => (PV.mvI (.inl rfl) rfl)) ?_
   refine RG.gs rfl rfl rfl (fun hp => (PV.idxStr rfl Tryz.underlying9 (gs_t hp) (gs_t hp) rfl (getBG (by first | omega | (simp at hp; omega))))) ?_
   refine RG.gs rfl rfl rfl (fun hp => (PV.lss rfl (gs_t hp) rfl)) ?_
   refine RG.gs rfl rfl rfl (fun hp => (PV.mvB (.inl rfl) (gs_t hp))) ?_
   refine RG.gs2 rfl rfl rfl (fun hp => (PV.mvS (.inl rfl) rfl)) ?_
   refine RG.gs2 rfl rfl rfl (fun hp => (PV.mvI (.inl rfl) rfl)) ?_
   refine RG.gs2 rfl rfl rfl (fun hp => (PV.idxStr rfl Tryz.underlying9 (gs_t hp) (gs_t hp) rfl (getBG (by first | omega | (simp at hp; omega))))) ?_
   refine RG.gs2 rfl rfl rfl (fun hp => (PV.gtr rfl (gs_t hp) rfl)) ?_
   refine RG.gs rfl rfl rfl (fun hp => (PV.pickO rfl (gs_t hp) rfl (fun hq => gs_t (gandF hp hq)))) ?_
   refine RG.pv rfl (PV.pickA rfl rfl (fun hq => gs_t (geqT hq)) rfl) (RG.nil ?_)
   refine WP.cond rfl (fun h2 => ?_) (fun h2 => ?_)
   · have e : isName s = false := isName_not (i := i) (by omega) (by simp [nameByte] at h2 ⊢; omega)
     rw [e] at k
     refine WP.seq (WP.region (RG.br rfl rfl rfl (RG.nil ?_)))
     refine WP.ret ?_
     exact ⟨_, _, ResV.one rfl rfl, Cv.p, k⟩
   · have h3 : nameByte (bt s i) = true := by
       simp [nameByte] at h2 ⊢; omega
     have hj : ∀ j, j < i + 1 → nameByte (bt s j) = true := fun j h => by
       by_cases e : j = i
       · subst e; exact h3
       · exact hb j (by omega)
     refine WP.skip (WP.region (RG.ml rfl rfl rfl (RG.pv rfl (PV.add rfl rfl rfl (by omega)) (RG.mr rfl rfl rfl (RG.nil ?_)))))
     exact ⟨rfl, i + 1, ⟨by omega, hj⟩, ⟨rfl, trivial⟩, ⟨rfl, trivial⟩, Cv.p, by omega⟩
 · have h1 := of_decide_eq_false h1
   have e := isName_all (s := s) (fun j h => hb j (by omega))
   rw [e] at k
   refine WP.exit ?_
   refine WP.seq (WP.region (RG.pv rfl (PV.mvS (.inl rfl) rfl) (RG.pv rfl (PV.lenS rfl Tryz.underlying9 rfl) (RG.pv rfl (PV.geq rfl rfl rfl) (RG.bl rfl rfl rfl ?_)))))
   refine RG.gs rfl rfl rfl (fun hp => (PV.mvS (.inl rfl) rfl)) ?_
   refine RG.gs rfl rfl rfl (fun hp => (PV.lenS rfl Tryz.underlying9 (gs_t hp))) ?_
   refine RG.gs rfl rfl rfl (fun hp => (PV.leq rfl (gs_t hp) rfl)) ?_
   refine RG.pv rfl (PV.pickA rfl rfl (fun hq => gs_t (geqT hq)) rfl) (RG.br rfl rfl rfl (RG.nil ?_))
   refine WP.ret ?_
   exact ⟨_, _, ResV.one rfl rfl, Cv.p, k⟩
theorem isName_r {s : ByteArray} (hs : s.size ≤ 9223372036854775807) (k : R (.bool (isName s)) G L) : CallT Tryz.prog 137 #[.string s] G L R := by
 refine CallT.enter (args := _) Tryz.func137 rfl rfl (by kernel_rfl) rfl ?_
 refine WP.seq (WP.region (RG.br rfl rfl rfl (RG.nil (WP.seq (WP.seq (WP.region (RG.mr rfl rfl rfl ?_)))))))
 refine RG.nil (WP.block ?_)
 refine WP.loop1 [0] (fun i => i ≤ s.size ∧ ∀ j, j < i → nameByte (bt s j) = true) (fun i => [(3, vi i)]) (fun i => L) (fun i => s.size - i) 0 ⟨by omega, fun j h => by omega⟩ ⟨rfl, trivial⟩ Cv.p ?_
 rintro i τ ⟨hi, hb⟩
 refine WP.seq (WP.seq (WP.region (RG.ml rfl rfl rfl (RG.pv rfl (PV.mvS (.inl rfl) rfl) (RG.pv rfl (PV.lenS rfl Tryz.underlying9 rfl) (RG.pv rfl (PV.lss rfl rfl rfl) (RG.nil ?_)))))))
 refine WP.cond rfl (fun h1 => ?_) (fun h1 => ?_)
 · have h1 := of_decide_eq_true h1
   refine WP.skip (WP.seq (WP.block (WP.seq (WP.region (RG.pv rfl (PV.mvS (.inl rfl) rfl) (RG.ml rfl rfl rfl (RG.pv rfl (PV.idxStr rfl Tryz.underlying9 rfl rfl rfl (getBG (by omega))) ?_)))))))
   refine RG.pv rfl (PV.geq rfl rfl rfl) (RG.bl rfl rfl rfl ?_)
   refine RG.gs rfl rfl rfl (fun hp => (PV.mvS (.inl rfl) rfl)) ?_
   refine RG.gs rfl rfl rfl (fun hp => (PV.mvI (.inl rfl) rfl)) ?_
   refine RG.gs rfl rfl rfl (fun hp => (PV.idxStr rfl Tryz.underlying9 (gs_t hp) (gs_t hp) rfl (getBG (by first | omega | (simp at hp; omega))))) ?_
   refine RG.gs rfl rfl rfl (fun hp => (PV.leq rfl (gs_t hp) rfl)) ?_
   refine RG.pv rfl (PV.pickA rfl rfl (fun hq => gs_t (geqT hq)) rfl) (RG.bl rfl rfl rfl ?_)
   refine RG.gs rfl rfl rfl (fun hp => (PV.mvS (.inl rfl) rfl)) ?_
   refine RG.gs rfl rfl rfl (fun hp => (PV.mvI (.inl rfl) rfl)) ?_
   refine RG.gs rfl rfl rfl (fun hp => (PV.idxStr rfl Tryz.underlying9 (gs_t hp) (gs_t hp) rfl (getBG (by first | omega | (simp at hp; omega))))) ?_
   refine RG.gs rfl rfl rfl (fun hp => (PV.geq rfl (gs_t hp) rfl)) ?_
   refine RG.gs rfl rfl rfl (fun hp => (PV.mvB (.inl rfl) (gs_t hp))) ?_
   refine RG.gs2 rfl rfl rfl (fun hp => (PV.mvS (.inl rfl) rfl)) ?_
   refine RG.gs2 rfl rfl rfl (fun hp => (PV.mvI (.inl rfl) rfl)) ?_
   refine RG.gs2 rfl rfl rfl (fun hp => (PV.idxStr rfl Tryz.underlying9 (gs_t hp) (gs_t hp) rfl (getBG (by first | omega | (simp at hp; omega))))) ?_
   refine RG.gs2 rfl rfl rfl (fun hp => (PV.leq rfl (gs_t hp) rfl)) ?_
   refine RG.gs rfl rfl rfl (fun hp => (PV.pickA rfl (gs_t hp) (fun hq => gs_t (gandT hp hq)) rfl)) ?_
   refine RG.pv rfl (PV.pickO rfl rfl rfl (fun hq => gs_t (geqF hq))) (RG.pv rfl (PV.not rfl rfl) (RG.nil ?_))
   refine WP.cond rfl (fun h2 => ?_) (fun h2 => ?_)
   · have e : isName s = false := isName_not (i := i) (by omega) (by simp [nameByte] at h2 ⊢; omega)
     rw [e] at k
     refine WP.seq (WP.region (RG.br rfl rfl rfl (RG.nil ?_)))
     refine WP.ret ?_
     exact ⟨_, _, ResV.one rfl rfl, Cv.p, k⟩
   · have h3 : nameByte (bt s i) = true := by
       simp [nameByte] at h2 ⊢; omega
     have hj : ∀ j, j < i + 1 → nameByte (bt s j) = true := fun j h => by
       by_cases e : j = i
       · subst e; exact h3
       · exact hb j (by omega)
     refine WP.skip (WP.region (RG.ml rfl rfl rfl (RG.pv rfl (PV.add rfl rfl rfl (by omega)) (RG.mr rfl rfl rfl (RG.nil ?_)))))
     exact ⟨rfl, i + 1, ⟨by omega, hj⟩, ⟨rfl, trivial⟩, ⟨rfl, trivial⟩, Cv.p, by omega⟩
 · have h1 := of_decide_eq_false h1
   have e := isName_all (s := s) (fun j h => hb j (by omega))
   rw [e] at k
   refine WP.exit ?_
   refine WP.seq (WP.region (RG.pv rfl (PV.mvS (.inl rfl) rfl) (RG.pv rfl (PV.lenS rfl Tryz.underlying9 rfl) (RG.pv rfl (PV.geq rfl rfl rfl) (RG.bl rfl rfl rfl ?_)))))
   refine RG.gs rfl rfl rfl (fun hp => (PV.mvS (.inl rfl) rfl)) ?_
   refine RG.gs rfl rfl rfl (fun hp => (PV.lenS rfl Tryz.underlying9 (gs_t hp))) ?_
   refine RG.gs rfl rfl rfl (fun hp => (PV.leq rfl (gs_t hp) rfl)) ?_
   refine RG.pv rfl (PV.pickA rfl rfl (fun hq => gs_t (geqT hq)) rfl) (RG.br rfl rfl rfl (RG.nil ?_))
   refine WP.ret ?_
   exact ⟨_, _, ResV.one rfl rfl, Cv.p, k⟩
def unitB (p : Pt) : Bool := within p.x (-40) 39 && within p.y (-40) 39
def validLb (l : Label) : Bool := (within l.layer 0 7 && unitB l.at_) && isName l.name
theorem validLb_i {l : Label} (hs : l.name.size ≤ 9223372036854775807) (k : R (.bool (validLb l)) G L) : CallT Tryz.prog 154 #[vT labelT l] G L R := by
 refine CallT.enter (args := _) Tryz.func154 rfl rfl (by kernel_rfl) rfl ?_
 refine WP.seq (WP.region ?_)
 refine RG.ot rfl (OT.box (cs := labelT.enc l) rfl rfl rfl fun b1 => ?_)
 refine RG.br rfl rfl rfl (RG.nil (WP.seq (WP.region (RG.pv rfl (PV.field rfl Fo191_0 rfl) (RG.pv rfl (PV.load1 rfl Sc2 rfl (Rd.blk rfl)) ?_)))))
 refine RG.callF (vs := [_, _, _]) rfl rfl En100 rfl (within_s ?_)
 refine RG.bl rfl rfl rfl ?_
 refine RG.gs rfl rfl rfl (fun hp => (PV.field rfl Fo191_1 rfl)) ?_
 refine RG.gs rfl rfl rfl (fun hp => (PV.loadB (vs := [_, _]) rfl Ag189 (gs_t hp) rfl rfl)) ?_
 refine RG.gsC rfl rfl rfl rfl En224 (fun hp => ⟨_, (acons (gs_t hp) anil), unitCell_s ⟨rfl, rfl, rfl⟩⟩) ?_
 refine RG.pv rfl (PV.pickA rfl rfl (fun hq => gs_t (geqT hq)) rfl) (RG.bl rfl rfl rfl ?_)
 refine RG.gs rfl rfl rfl (fun hp => (PV.field rfl Fo191_2 rfl)) ?_
 refine RG.gs rfl rfl rfl (fun hp => (PV.load1 rfl Sc9 (gs_t hp) (Rd.blk rfl))) ?_
 refine RG.gsC rfl rfl rfl rfl En148 (fun hp => ⟨_, (acons (gs_t hp) anil), isName_i hs ⟨rfl, rfl, rfl⟩⟩) ?_
 refine RG.pv rfl (PV.pickA rfl rfl (fun hq => gs_t (geqT hq)) rfl) (RG.br rfl rfl rfl (RG.nil ?_))
 refine WP.ret ?_
 exact ⟨_, _, ResV.one rfl rfl, Cv.p, k⟩
theorem l09In_s {a b c : Int} (k : R (.bool (within a b c)) G L) : CallT Tryz.prog 196 #[vi a, vi b, vi c] G L R := by
 refine CallT.enter (args := _) Tryz.func196 rfl rfl (by kernel_rfl) rfl ?_
 refine WP.seq (WP.region (RG.br rfl rfl rfl (RG.nil (WP.seq (WP.region (RG.ml rfl rfl rfl (RG.ml rfl rfl rfl ?_)))))))
 refine RG.pv rfl (PV.geq rfl rfl rfl) (RG.bl rfl rfl rfl ?_)
 refine RG.gs rfl rfl rfl (fun hp => (PV.mvI (.inl rfl) rfl)) ?_
 refine RG.gs rfl rfl rfl (fun hp => (PV.mvI (.inl rfl) rfl)) ?_
 refine RG.gs rfl rfl rfl (fun hp => (PV.leq rfl (gs_t hp) (gs_t hp))) ?_
 refine RG.pv rfl (PV.pickA rfl rfl (fun hq => gs_t (geqT hq)) rfl) (RG.br rfl rfl rfl (RG.nil ?_))
 refine WP.ret ?_
 exact ⟨_, _, ResV.one rfl rfl, Cv.p, k⟩
theorem l09Layer_s {a : Int} (k : R (.bool (within a 0 7)) G L) : CallT Tryz.prog 212 #[vi a] G L R := by
 refine CallT.enter (args := _) Tryz.func212 rfl rfl (by kernel_rfl) rfl ?_
 refine WP.seq (WP.region (RG.br rfl rfl rfl (RG.nil (WP.seq (WP.region (RG.ml rfl rfl rfl ?_))))))
 refine RG.callF (vs := [_, _, _]) rfl rfl En196 rfl (l09In_s ?_)
 refine RG.br rfl rfl rfl (RG.nil ?_)
 refine WP.ret ?_
 exact ⟨_, _, ResV.one rfl rfl, Cv.p, k⟩
theorem l09Unit_s {p : Pt} (k : R (.bool (unitB p)) G L) : CallT Tryz.prog 213 #[vpt p] G L R := by
 refine CallT.enter (args := _) Tryz.func213 rfl rfl (by kernel_rfl) rfl ?_
 refine WP.seq (WP.region ?_)
 refine RG.ot rfl (OT.box (cs := ptT.enc p) rfl rfl rfl fun b1 => ?_)
 refine RG.br rfl rfl rfl (RG.nil (WP.seq (WP.region (RG.pv rfl (PV.field rfl Fo189_0 rfl) (RG.pv rfl (PV.load1 rfl Sc2 rfl (Rd.blk rfl)) ?_)))))
 refine RG.callF (vs := [_, _, _]) rfl rfl En196 rfl (l09In_s ?_)
 refine RG.bl rfl rfl rfl ?_
 refine RG.gs rfl rfl rfl (fun hp => (PV.field rfl Fo189_1 rfl)) ?_
 refine RG.gs rfl rfl rfl (fun hp => (PV.load1 rfl Sc2 (gs_t hp) (Rd.blk rfl))) ?_
 refine RG.gsC rfl rfl rfl rfl En196 (fun hp => ⟨_, (acons (gs_t hp) (acons rfl (acons rfl anil))), l09In_s ⟨rfl, rfl, rfl⟩⟩) ?_
 refine RG.pv rfl (PV.pickA rfl rfl (fun hq => gs_t (geqT hq)) rfl) (RG.br rfl rfl rfl (RG.nil ?_))
 refine WP.ret ?_
 exact ⟨_, _, ResV.one rfl rfl, Cv.p, k⟩
theorem validLb_r {l : Label} (hs : l.name.size ≤ 9223372036854775807) (k : R (.bool (validLb l)) G L) : CallT Tryz.prog 139 #[vT labelT l] G L R := by
 refine CallT.enter (args := _) Tryz.func139 rfl rfl (by kernel_rfl) rfl ?_
 refine WP.seq (WP.region ?_)
 refine RG.ot rfl (OT.box (cs := labelT.enc l) rfl rfl rfl fun b1 => ?_)
 refine RG.br rfl rfl rfl (RG.nil (WP.seq (WP.region (RG.pv rfl (PV.field rfl Fo191_0 rfl) (RG.pv rfl (PV.load1 rfl Sc2 rfl (Rd.blk rfl)) ?_)))))
 refine RG.callF (vs := [_]) rfl rfl En212 rfl (l09Layer_s ?_)
 refine RG.bl rfl rfl rfl ?_
 refine RG.gs rfl rfl rfl (fun hp => (PV.field rfl Fo191_1 rfl)) ?_
 refine RG.gs rfl rfl rfl (fun hp => (PV.loadB (vs := [_, _]) rfl Ag189 (gs_t hp) rfl rfl)) ?_
 refine RG.gsC rfl rfl rfl rfl En213 (fun hp => ⟨_, (acons (gs_t hp) anil), l09Unit_s ⟨rfl, rfl, rfl⟩⟩) ?_
 refine RG.pv rfl (PV.pickA rfl rfl (fun hq => gs_t (geqT hq)) rfl) (RG.bl rfl rfl rfl ?_)
 refine RG.gs rfl rfl rfl (fun hp => (PV.field rfl Fo191_2 rfl)) ?_
 refine RG.gs rfl rfl rfl (fun hp => (PV.load1 rfl Sc9 (gs_t hp) (Rd.blk rfl))) ?_
 refine RG.gsC rfl rfl rfl rfl En137 (fun hp => ⟨_, (acons (gs_t hp) anil), isName_r hs ⟨rfl, rfl, rfl⟩⟩) ?_
 refine RG.pv rfl (PV.pickA rfl rfl (fun hq => gs_t (geqT hq)) rfl) (RG.br rfl rfl rfl (RG.nil ?_))
 refine WP.ret ?_
 exact ⟨_, _, ResV.one rfl rfl, Cv.p, k⟩
theorem indexF_label {v fv : Value} {xs : List (Label)} {p : (Label) → Bool} (h1 : Rs G L labelT v xs) (hf : ∀ i, i < xs.length → CB Tryz.prog G L fv [vT labelT (gd xs i)] (.bool (p (gd xs i)))) (k : R (vi (idxI p xs)) G L) : CallT Tryz.prog 223 #[v, fv] G L R := by
 refine CallT.bd h1 fun hb => ?_
 refine CallT.enter (args := _) Tryz.func223 rfl rfl (by kernel_rfl) rfl ?_
 refine WP.seq (WP.region (RG.mr rfl rfl rfl (RG.nil (WP.seq (WP.seq (WP.region (RG.pv rfl (PV.move (v := v) rfl rfl) ?_)))))))
 refine RG.pv rfl (PV.len (v := v) rfl Tryz.underlying112 rfl (SlF.r h1)) (RG.ml rfl rfl rfl (RG.nil (WP.block ?_)))
 refine WP.loop1 [0, 1, 7] (fun i => i ≤ xs.length ∧ ∀ j, j < i → p (gd xs j) = false) (fun i => [(8, vi i)]) (fun i => L) (fun i => xs.length - i) 0 ⟨by omega, fun j h => by omega⟩ ⟨rfl, trivial⟩ Cv.p ?_
 rintro i τ ⟨hi, hj⟩
 refine WP.seq (WP.region (RG.pv rfl (PV.lss rfl rfl rfl) (RG.nil (WP.seq ?_))))
 refine WP.cond rfl (fun h2 => ?_) (fun h2 => ?_)
 · have h2 := of_decide_eq_true h2
   refine WP.skip (WP.seq (WP.block (WP.seq (WP.region (RG.ml rfl rfl rfl (RG.mr rfl rfl rfl (RG.nil ?_)))))))
   refine WP.seq (WP.region (RG.pv rfl (PV.move (v := fv) rfl rfl) (RG.pv rfl (PV.move (v := v) rfl rfl) (RG.ml rfl rfl rfl (RG.pv rfl (PV.idxS (v := v) rfl Is112 rfl (SlF.r h1) rfl rfl (by omega)) (RG.pv rfl (PV.loadE rfl Ag191 rfl rfl (El.r h1 (getG (by omega)))) ?_))))))
   refine RG.callB (vs := [_]) rfl rfl rfl rfl (CB.up (hf i (by omega))) ?_
   refine RG.nil ?_
   refine WP.cond rfl (fun h3 => ?_) (fun h3 => ?_)
   · rw [idxI_at (by omega) h3 hj] at k
     refine WP.seq (WP.region (RG.ml rfl rfl rfl (RG.mr rfl rfl rfl (RG.nil ?_))))
     refine WP.ret ?_
     exact ⟨_, _, ResV.one rfl rfl, Cv.p, k⟩
   · have hj' : ∀ j, j < i + 1 → p (gd xs j) = false := fun j h => by
       by_cases c : j = i
       · rw [c]; exact h3
       · exact hj j (by omega)
     refine WP.skip (WP.region (RG.pv rfl (PV.add rfl rfl rfl (by omega)) (RG.ml rfl rfl rfl (RG.nil ?_))))
     exact ⟨rfl, i + 1, ⟨by omega, hj'⟩, ⟨rfl, trivial⟩, ⟨rfl, rfl, rfl, trivial⟩, Cv.p, by omega⟩
 · have h2 := of_decide_eq_false h2
   rw [idxI_none (fun j h => hj j (by omega))] at k
   refine WP.exit ?_
   refine WP.seq (WP.region (RG.mr rfl rfl rfl (RG.nil ?_)))
   refine WP.ret ?_
   exact ⟨_, _, ResV.one rfl rfl, Cv.p, k⟩
theorem containsF_label {v fv : Value} {xs : List (Label)} {p : (Label) → Bool} (h1 : Rs G L labelT v xs) (hf : ∀ i, i < xs.length → CB Tryz.prog G L fv [vT labelT (gd xs i)] (.bool (p (gd xs i)))) (k : R (.bool (xs.any p)) G L) : CallT Tryz.prog 152 #[v, fv] G L R := by
 rw [← idxI_any] at k
 refine CallT.enter (args := _) Tryz.func152 rfl rfl (by kernel_rfl) rfl ?_
 refine WP.seq (WP.region (RG.br rfl rfl rfl (RG.nil (WP.seq (WP.region (RG.pv rfl (PV.move (v := v) rfl rfl) (RG.pv rfl (PV.move (v := fv) rfl rfl) ?_)))))))
 refine RG.callF (vs := [v, fv]) rfl rfl En223 rfl (indexF_label (Rs.up h1) (fun i hi => (hf i hi).up) ?_)
 refine RG.pv rfl (PV.geq rfl rfl rfl) (RG.br rfl rfl rfl (RG.nil ?_))
 refine WP.ret ?_
 exact ⟨_, _, ResV.one rfl rfl, Cv.p, k⟩
theorem toLabel_s {l : Label} (k : R (vT labelT l) G L) : CallT Tryz.prog 220 #[vT labelT l] G L R := by
 refine CallT.enter (args := _) Tryz.func220 rfl rfl (by kernel_rfl) rfl ?_
 refine WP.seq (WP.region ?_)
 refine RG.ot rfl (OT.box (cs := labelT.enc l) rfl rfl rfl fun b1 => ?_)
 refine RG.ot rfl (OT.alloc rfl Zr191 fun b2 => ?_)
 refine RG.nil (WP.seq (WP.region ?_))
 refine RG.ot rfl (OT.alloc rfl Zr191 fun b3 => ?_)
 refine RG.nil (WP.seq (WP.region (RG.pv rfl (PV.field rfl Fo238_0 rfl) (RG.pv rfl (PV.load1 rfl Sc2 rfl (Rd.blk rfl)) (RG.pv rfl (PV.field rfl Fo191_0 rfl) ?_)))))
 refine RG.ot rfl (OT.storeB (vs := [vi _]) (cs' := [_, _, _, _]) rfl Sz2 rfl rfl (Cl.c rfl) rfl (OneC.c rfl) rfl rfl ?_)
 refine RG.nil (WP.seq (WP.region (RG.pv rfl (PV.field rfl Fo238_1 rfl) (RG.pv rfl (PV.loadB (vs := [_, _]) rfl Ag236 rfl rfl rfl) ?_))))
 refine RG.callF (vs := [_]) rfl rfl En257 rfl (toPoint_s ?_)
 refine RG.pv rfl (PV.field rfl Fo191_1 rfl) ?_
 refine RG.ot rfl (OT.storeB (vs := [vi _, vi _]) (cs' := [_, _, _, _]) rfl Sz189 rfl rfl (Cl.c rfl) rfl (OneC.c rfl) rfl rfl ?_)
 refine RG.nil (WP.seq (WP.region (RG.pv rfl (PV.field rfl Fo238_2 rfl) (RG.pv rfl (PV.load1 rfl Sc9 rfl (Rd.blk rfl)) (RG.pv rfl (PV.field rfl Fo191_2 rfl) ?_)))))
 refine RG.ot rfl (OT.storeB (vs := [.string _]) (cs' := [_, _, _, _]) rfl Sz9 rfl rfl (Cl.c rfl) rfl (OneC.c rfl) rfl rfl ?_)
 refine RG.nil (WP.seq (WP.region (RG.pv rfl (PV.loadW rfl Ag191 rfl rfl) ?_)))
 refine RG.ot rfl (OT.storeW (vs := [vi _, vi _, vi _, .string _]) rfl Sz191 rfl rfl (Cl.c rfl) rfl rfl (OneC.c rfl) ?_)
 refine RG.nil ?_
 refine WP.ret ?_
 exact ⟨_, _, ResV.one rfl (RV1.cell rfl Ag191 rfl), Cv.p, k⟩
theorem toLabelS_s {v : Value} {xs : List Label} (h1 : Rs G L labelT v xs) (hb : xs.length ≤ 1048576) (k : ∀ v', R v' G (osl 191 labelT v' xs :: L)) : CallT Tryz.prog 146 #[v] G L R := by
 refine CallT.enter (args := _) Tryz.func146 rfl rfl (by kernel_rfl) rfl ?_
 refine WP.seq (WP.region (RG.pv rfl (PV.asg rfl rfl) (RG.nil (WP.seq (WP.region (RG.pv rfl (PV.move (v := v) rfl rfl) (RG.pv rfl (PV.len (v := v) rfl Tryz.underlying121 rfl (SlF.r h1)) ?_)))))))
 refine RG.ot rfl (OT.make (F := labelT) (a0 := default) rfl El112 rfl (by decide) rfl rfl (by omega) (by omega) fun v7 => ?_)
 refine RG.pv rfl (PV.asg (v := v7) rfl rfl) (RG.nil (WP.seq (WP.seq (WP.region (RG.mr rfl rfl rfl (RG.nil (WP.block ?_)))))))
 refine WP.loop2 [0, 3] (fun i ys => i ≤ xs.length ∧ ys.length = xs.length ∧ ∀ j, j < i → ys[j]? = xs[j]?) (fun i ys => [(4, vi i)]) (fun i ys => osl 191 labelT v7 ys :: L) (fun i ys => xs.length - i) 0 (List.replicate xs.length default) ⟨by omega, by simp, fun j h => by omega⟩ ⟨rfl, trivial⟩ Cv.p ?_
 rintro i ys τ ⟨hi, hl, he⟩
 refine WP.seq (WP.seq (WP.region (RG.ml rfl rfl rfl (RG.pv rfl (PV.move (v := v) rfl rfl) (RG.pv rfl (PV.len (v := v) rfl Tryz.underlying121 rfl (SlF.r h1)) (RG.pv rfl (PV.lss rfl rfl rfl) (RG.nil ?_)))))))
 refine WP.cond rfl (fun h2 => ?_) (fun h2 => ?_)
 · have h2 := of_decide_eq_true h2
   refine WP.skip (WP.seq (WP.block (WP.region (RG.pv rfl (PV.move (v := v7) rfl rfl) (RG.ml rfl rfl rfl (RG.pv rfl (PV.move (v := v) rfl rfl) (RG.ml rfl rfl rfl ?_)))))))
   refine RG.pv rfl (PV.idxS (v := v) rfl Is121 rfl (SlF.r h1) rfl rfl (by omega)) (RG.pv rfl (PV.loadE rfl Ag238 rfl rfl (El.r h1 (getG (by omega)))) ?_)
   refine RG.callF (vs := [_]) rfl rfl En220 rfl (toLabel_s ?_)
   refine RG.pv rfl (PV.idxS (v := v7) rfl Is112 rfl SlF.o rfl rfl (by omega)) ?_
   refine RG.ot rfl (OT.storeE (F := labelT) rfl Sz191 rfl rfl rfl (Cl.c rfl) (OneC.c rfl) (by omega) ?_)
   refine RG.nil (WP.region (RG.ml rfl rfl rfl (RG.pv rfl (PV.add rfl rfl rfl (by omega)) (RG.mr rfl rfl rfl (RG.nil ?_)))))
   exact ⟨rfl, i + 1, _, ⟨by omega, by simpa using hl, set_pre he (getG (by omega)) hl⟩, ⟨rfl, trivial⟩, ⟨rfl, rfl, trivial⟩, Cv.p, by omega⟩
 · have h2 := of_decide_eq_false h2
   obtain rfl := pre_eq he hl (by omega)
   refine WP.exit ?_
   refine WP.seq (WP.region (RG.pv rfl (PV.move (v := v7) rfl rfl) (RG.pv rfl (PV.asg (v := v7) rfl rfl) (RG.nil ?_))))
   refine WP.ret ?_
   exact ⟨_, _, ResV.one rfl rfl, Cv.p, k v7⟩
theorem eqPoint_s {p q : Pt} (k : R (.bool (decide (p = q))) G L) : CallT Tryz.prog 263 #[vpt p, vpt q] G L R := by
 refine CallT.enter (args := _) Tryz.func263 rfl rfl (by kernel_rfl) rfl ?_
 refine WP.seq (WP.region ?_)
 refine RG.ot rfl (OT.box (cs := ptT.enc p) rfl rfl rfl fun b2 => ?_)
 refine RG.ot rfl (OT.box (cs := ptT.enc q) rfl rfl rfl fun b3 => ?_)
 refine RG.br rfl rfl rfl (RG.nil (WP.seq (WP.seq (WP.region (RG.pv rfl (PV.field rfl Fo189_0 rfl) (RG.pv rfl (PV.load1 rfl Sc2 rfl (Rd.blk rfl)) (RG.pv rfl (PV.field rfl Fo189_0 rfl) ?_)))))))
 refine RG.pv rfl (PV.load1 rfl Sc2 rfl (Rd.blk rfl)) (RG.pv rfl (PV.neq rfl rfl rfl) (RG.nil ?_))
 refine WP.cond rfl (fun h1 => ?_) (fun h1 => ?_)
 · have e : decide (p = q) = false := by
     obtain ⟨a1, a2⟩ := p; obtain ⟨b1, b2⟩ := q
     simp at h1 ⊢; intro e; exact absurd e h1
   rw [e] at k
   refine WP.seq (WP.region (RG.br rfl rfl rfl (RG.nil ?_)))
   refine WP.ret ?_
   exact ⟨_, _, ResV.one rfl rfl, Cv.p, k⟩
 · refine WP.skip ?_
   refine WP.seq (WP.seq (WP.region (RG.pv rfl (PV.field rfl Fo189_1 rfl) (RG.pv rfl (PV.load1 rfl Sc2 rfl (Rd.blk rfl)) (RG.pv rfl (PV.field rfl Fo189_1 rfl) (RG.pv rfl (PV.load1 rfl Sc2 rfl (Rd.blk rfl)) (RG.pv rfl (PV.neq rfl rfl rfl) ?_)))))))
   refine RG.nil ?_
   refine WP.cond rfl (fun h2 => ?_) (fun h2 => ?_)
   · have e : decide (p = q) = false := by
       obtain ⟨a1, a2⟩ := p; obtain ⟨b1, b2⟩ := q
       simp at h2 ⊢; exact fun _ => h2
     rw [e] at k
     refine WP.seq (WP.region (RG.br rfl rfl rfl (RG.nil ?_)))
     refine WP.ret ?_
     exact ⟨_, _, ResV.one rfl rfl, Cv.p, k⟩
   · have e : decide (p = q) = true := by
       obtain ⟨a1, a2⟩ := p; obtain ⟨b1, b2⟩ := q
       simp at h1 h2 ⊢; exact ⟨h1, h2⟩
     rw [e] at k
     refine WP.skip (WP.seq (WP.region (RG.br rfl rfl rfl (RG.nil ?_))))
     refine WP.ret ?_
     exact ⟨_, _, ResV.one rfl rfl, Cv.p, k⟩
theorem eqLabel_s {a b : Label} (k : R (.bool (decide (a = b))) G L) : CallT Tryz.prog 229 #[vT labelT a, vT labelT b] G L R := by
 refine CallT.enter (args := _) Tryz.func229 rfl rfl (by kernel_rfl) rfl ?_
 refine WP.seq (WP.region ?_)
 refine RG.ot rfl (OT.box (cs := labelT.enc a) rfl rfl rfl fun b2 => ?_)
 refine RG.ot rfl (OT.box (cs := labelT.enc b) rfl rfl rfl fun b3 => ?_)
 refine RG.br rfl rfl rfl (RG.nil (WP.seq (WP.seq (WP.region (RG.pv rfl (PV.field rfl Fo191_0 rfl) (RG.pv rfl (PV.load1 rfl Sc2 rfl (Rd.blk rfl)) (RG.pv rfl (PV.field rfl Fo191_0 rfl) ?_)))))))
 refine RG.pv rfl (PV.load1 rfl Sc2 rfl (Rd.blk rfl)) (RG.pv rfl (PV.neq rfl rfl rfl) (RG.nil ?_))
 refine WP.cond rfl (fun h1 => ?_) (fun h1 => ?_)
 · have e : decide (a = b) = false := by
     rw [decide_eq_false_iff_not]; rintro rfl; simp at h1
   rw [e] at k
   refine WP.seq (WP.region (RG.br rfl rfl rfl (RG.nil ?_)))
   refine WP.ret ?_
   exact ⟨_, _, ResV.one rfl rfl, Cv.p, k⟩
 · refine WP.skip ?_
   refine WP.seq (WP.seq (WP.region (RG.pv rfl (PV.field rfl Fo191_1 rfl) (RG.pv rfl (PV.loadB (vs := [_, _]) rfl Ag189 rfl rfl rfl) (RG.pv rfl (PV.field rfl Fo191_1 rfl) (RG.pv rfl (PV.loadB (vs := [_, _]) rfl Ag189 rfl rfl rfl) ?_))))))
   refine RG.callF (vs := [_, _]) rfl rfl En263 rfl (eqPoint_s ?_)
   refine RG.pv rfl (PV.not rfl rfl) (RG.nil ?_)
   refine WP.cond rfl (fun h2 => ?_) (fun h2 => ?_)
   · have e : decide (a = b) = false := by
       rw [decide_eq_false_iff_not]; rintro rfl; simp at h2
     rw [e] at k
     refine WP.seq (WP.region (RG.br rfl rfl rfl (RG.nil ?_)))
     refine WP.ret ?_
     exact ⟨_, _, ResV.one rfl rfl, Cv.p, k⟩
   · refine WP.skip ?_
     refine WP.seq (WP.seq (WP.region (RG.pv rfl (PV.field rfl Fo191_2 rfl) (RG.pv rfl (PV.load1 rfl Sc9 rfl (Rd.blk rfl)) (RG.pv rfl (PV.field rfl Fo191_2 rfl) (RG.pv rfl (PV.load1 rfl Sc9 rfl (Rd.blk rfl)) (RG.pv rfl (PV.neqS rfl rfl rfl) ?_)))))))
     refine RG.nil ?_
     refine WP.cond rfl (fun h3 => ?_) (fun h3 => ?_)
     · have e : decide (a = b) = false := by
         rw [decide_eq_false_iff_not]; rintro rfl; simp at h3
       rw [e] at k
       refine WP.seq (WP.region (RG.br rfl rfl rfl (RG.nil ?_)))
       refine WP.ret ?_
       exact ⟨_, _, ResV.one rfl rfl, Cv.p, k⟩
     · have e : decide (a = b) = true := by
         obtain ⟨a1, a2, a3⟩ := a; obtain ⟨b1, b2, b3⟩ := b
         simp at h1 h2 h3 ⊢; exact ⟨h1, h2, h3⟩
       rw [e] at k
       refine WP.skip (WP.seq (WP.region (RG.br rfl rfl rfl (RG.nil ?_))))
       refine WP.ret ?_
       exact ⟨_, _, ResV.one rfl rfl, Cv.p, k⟩
theorem eqLabelS_s {v u : Value} {xs ys : List Label} (h1 : Rs G L labelT v xs) (h2 : Rs G L labelT u ys) (k : R (.bool (decide (xs = ys))) G L) : CallT Tryz.prog 165 #[v, u] G L R := by
 refine CallT.bd h1 fun hb => ?_
 refine CallT.bd h2 fun hb' => ?_
 refine CallT.enter (args := _) Tryz.func165 rfl rfl (by kernel_rfl) rfl ?_
 refine WP.seq (WP.region (RG.br rfl rfl rfl (RG.nil (WP.seq (WP.seq (WP.region (RG.pv rfl (PV.move (v := v) rfl rfl) ?_)))))))
 refine RG.pv rfl (PV.len (v := v) rfl Tryz.underlying112 rfl (SlF.r h1)) (RG.pv rfl (PV.move (v := u) rfl rfl) (RG.pv rfl (PV.len (v := u) rfl Tryz.underlying112 rfl (SlF.r h2)) (RG.pv rfl (PV.neq rfl rfl rfl) (RG.nil ?_))))
 refine WP.cond rfl (fun h3 => ?_) (fun h3 => ?_)
 · have e : decide (xs = ys) = false := by
     rw [decide_eq_false_iff_not]; rintro rfl; simp at h3
   rw [e] at k
   refine WP.seq (WP.region (RG.br rfl rfl rfl (RG.nil ?_)))
   refine WP.ret ?_
   exact ⟨_, _, ResV.one rfl rfl, Cv.p, k⟩
 · have hl : xs.length = ys.length := by simp at h3; omega
   refine WP.skip (WP.seq (WP.seq (WP.region (RG.mr rfl rfl rfl (RG.nil (WP.block ?_))))))
   refine WP.loop1 [0, 1] (fun i => i ≤ xs.length ∧ ∀ j, j < i → xs[j]? = ys[j]?) (fun i => [(5, vi i)]) (fun i => L) (fun i => xs.length - i) 0 ⟨by omega, fun j h => by omega⟩ ⟨rfl, trivial⟩ Cv.p ?_
   rintro i τ ⟨hi, he⟩
   refine WP.seq (WP.seq (WP.region (RG.ml rfl rfl rfl (RG.pv rfl (PV.move (v := v) rfl rfl) (RG.pv rfl (PV.len (v := v) rfl Tryz.underlying112 rfl (SlF.r h1)) (RG.pv rfl (PV.lss rfl rfl rfl) (RG.nil ?_)))))))
   refine WP.cond rfl (fun h4 => ?_) (fun h4 => ?_)
   · have h4 := of_decide_eq_true h4
     have h5 : i < xs.length := by omega
     refine WP.skip (WP.seq (WP.block (WP.seq ?_)))
     refine WP.regionQ (by kernel_rfl) (by kernel_rfl) ?_
     refine RQ.pv rfl (PV.move (v := v) rfl rfl) ?_
     refine RQ.pv rfl (PV.mvI (.inl rfl) rfl) ?_
     refine RQ.pv rfl (PV.idxS (v := v) rfl Is112 rfl (SlF.r h1) rfl rfl (by omega)) ?_
     refine RQ.pv rfl (PV.loadE rfl Ag191 rfl rfl (El.r h1 (getG (by omega)))) ?_
     refine RQ.pv rfl (PV.move (v := u) rfl rfl) ?_
     refine RQ.pv rfl (PV.mvI (.inl rfl) rfl) ?_
     refine RQ.pv rfl (PV.idxS (v := u) rfl Is112 rfl (SlF.r h2) rfl rfl (by omega)) ?_
     refine RQ.pv rfl (PV.loadE rfl Ag191 rfl rfl (El.r h2 (getG (by omega)))) ?_
     refine RQ.callF (vs := [_, _]) rfl rfl En229 rfl (eqLabel_s ⟨rfl, rfl, rfl⟩) ?_
     refine RQ.pv rfl (PV.not rfl rfl) ?_
     refine RQ.nil ?_
     refine WP.cond rfl (fun h6 => ?_) (fun h6 => ?_)
     · have e : decide (xs = ys) = false := by
         rw [decide_eq_false_iff_not]; rintro rfl; simp at h6
       rw [e] at k
       refine WP.seq (WP.region (RG.br rfl rfl rfl (RG.nil ?_)))
       refine WP.ret ?_
       exact ⟨_, _, ResV.one rfl rfl, Cv.p, k⟩
     · have e : gd xs i = gd ys i := by simpa using h6
       have he' : ∀ j, j < i + 1 → xs[j]? = ys[j]? := fun j h => by
         by_cases c : j = i
         · rw [c, getG h5, getG (show i < ys.length by omega), e]
         · exact he j (by omega)
       refine WP.skip (WP.region (RG.ml rfl rfl rfl (RG.pv rfl (PV.add rfl rfl rfl (by omega)) (RG.mr rfl rfl rfl (RG.nil ?_)))))
       exact ⟨rfl, i + 1, ⟨by omega, he'⟩, ⟨rfl, trivial⟩, ⟨rfl, rfl, trivial⟩, Cv.p, by omega⟩
   · have h4 := of_decide_eq_false h4
     have e : decide (xs = ys) = true := by
       rw [decide_eq_true_iff]; exact pre_eq he hl (by omega)
     rw [e] at k
     refine WP.exit ?_
     refine WP.seq (WP.region (RG.br rfl rfl rfl (RG.nil ?_)))
     refine WP.ret ?_
     exact ⟨_, _, ResV.one rfl rfl, Cv.p, k⟩
def szLb : List Label → Int → Int
  | [], n => n
  | w :: l, n => if n - w.name.size < 0 then -1 else szLb l (n - w.name.size)
theorem szLabel_s {w : Label} {n : Int} (hn : n ≤ 1048576) (h0 : 0 ≤ n) (hs : w.name.size ≤ 9223372036854775807) (k : ∀ r : Int, (r = if n - w.name.size < 0 then -1 else n - w.name.size) → R (vi r) G L) : CallT Tryz.prog 211 #[vT labelT w, vi n] G L R := by
 refine CallT.enter (args := _) Tryz.func211 rfl rfl (by kernel_rfl) rfl ?_
 refine WP.seq (WP.region ?_)
 refine RG.ot rfl (OT.box (cs := labelT.enc w) rfl rfl rfl fun b2 => ?_)
 refine RG.mr rfl rfl rfl (RG.nil (WP.seq (WP.region (RG.ml rfl rfl rfl (RG.pv rfl (PV.field rfl Fo238_2 rfl) (RG.pv rfl (PV.load1 rfl Sc9 rfl (Rd.blk rfl)) (RG.pv rfl (PV.lenS rfl Tryz.underlying9 rfl) ?_)))))))
 refine RG.pv rfl (PV.sub rfl rfl rfl (by omega)) (RG.mr rfl rfl rfl (RG.nil (WP.seq (WP.seq (WP.region (RG.ml rfl rfl rfl (RG.pv rfl (PV.lss rfl rfl rfl) ?_)))))))
 refine RG.nil ?_
 refine WP.cond rfl (fun h1 => ?_) (fun h1 => ?_)
 · have h1 := of_decide_eq_true h1
   refine WP.seq (WP.region (RG.mr rfl rfl rfl (RG.nil ?_)))
   refine WP.ret ?_
   exact ⟨_, _, ResV.one rfl rfl, Cv.p, k _ (by rw [if_pos h1])⟩
 · have h1 := of_decide_eq_false h1
   refine WP.skip (WP.seq (WP.region (RG.ml rfl rfl rfl (RG.mr rfl rfl rfl (RG.nil ?_)))))
   refine WP.ret ?_
   exact ⟨_, _, ResV.one rfl rfl, Cv.p, k _ (by rw [if_neg h1])⟩
def szLbS (xs : List Label) (n : Int) : Int := if n - xs.length < 0 then -1 else szLb xs (n - xs.length)
theorem szLb_drop {xs : List Label} {i : Nat} {n : Int} (h : i < xs.length) : szLb (xs.drop i) n = if n - (gd xs i).name.size < 0 then -1 else szLb (xs.drop (i + 1)) (n - (gd xs i).name.size) := by
 rw [List.drop_eq_getElem_cons h, szLb, gd_eq h]
theorem szLbS_len {xs : List Label} {n : Int} (h : 0 ≤ szLbS xs n) : (xs.length : Int) ≤ n := by
 unfold szLbS at h; split at h <;> omega
theorem szLabelS_s {v : Value} {xs : List Label} {n : Int} (h1 : Rs G L labelT v xs) (hn : n ≤ 1048576) (h0 : 0 ≤ n) (hlen : ∀ i, i < xs.length → (gd xs i).name.size ≤ 9223372036854775807) (k : R (vi (szLbS xs n)) G L) : CallT Tryz.prog 135 #[v, vi n] G L R := by
 refine CallT.bd h1 fun hb => ?_
 refine CallT.enter (args := _) Tryz.func135 rfl rfl (by kernel_rfl) rfl ?_
 refine WP.seq (WP.region (RG.mr rfl rfl rfl (RG.nil (WP.seq (WP.region (RG.ml rfl rfl rfl (RG.pv rfl (PV.move (v := v) rfl rfl) ?_)))))))
 refine RG.pv rfl (PV.len (v := v) rfl Tryz.underlying121 rfl (SlF.r h1)) (RG.pv rfl (PV.sub rfl rfl rfl (by omega)) (RG.mr rfl rfl rfl (RG.nil (WP.seq (WP.seq (WP.region (RG.ml rfl rfl rfl ?_)))))))
 refine RG.pv rfl (PV.lss rfl rfl rfl) (RG.nil ?_)
 refine WP.cond rfl (fun h2 => ?_) (fun h2 => ?_)
 · have h2 := of_decide_eq_true h2
   rw [szLbS, if_pos h2] at k
   refine WP.seq (WP.region (RG.mr rfl rfl rfl (RG.nil ?_)))
   refine WP.ret ?_
   exact ⟨_, _, ResV.one rfl rfl, Cv.p, k⟩
 · have h2 := of_decide_eq_false h2
   rw [szLbS, if_neg h2] at k
   refine WP.skip (WP.seq (WP.seq (WP.region (RG.mr rfl rfl rfl (RG.nil (WP.block ?_))))))
   refine WP.loop2 [0] (fun i m => i ≤ xs.length ∧ 0 ≤ m ∧ m ≤ 1048576 ∧ szLb xs (n - xs.length) = szLb (xs.drop i) m) (fun i m => [(5, vi i), (1, vi m)]) (fun i m => L) (fun i m => xs.length - i) 0 (n - xs.length) ⟨by omega, by omega, by omega, by simp⟩ ⟨rfl, rfl, trivial⟩ Cv.p ?_
   rintro i m τ ⟨hi, hm0, hm1, he⟩
   refine WP.seq (WP.seq (WP.region (RG.ml rfl rfl rfl (RG.pv rfl (PV.move (v := v) rfl rfl) (RG.pv rfl (PV.len (v := v) rfl Tryz.underlying121 rfl (SlF.r h1)) (RG.pv rfl (PV.lss rfl rfl rfl) (RG.nil ?_)))))))
   refine WP.cond rfl (fun h3 => ?_) (fun h3 => ?_)
   · have h3 := of_decide_eq_true h3
     have h4 : i < xs.length := by omega
     rw [szLb_drop h4] at he
     refine WP.skip (WP.seq (WP.block (WP.seq (WP.region (RG.pv rfl (PV.move (v := v) rfl rfl) (RG.ml rfl rfl rfl (RG.pv rfl (PV.idxS (v := v) rfl Is121 rfl (SlF.r h1) rfl rfl (by omega)) ?_)))))))
     refine RG.pv rfl (PV.loadE rfl Ag238 rfl rfl (El.r h1 (getG (by omega)))) (RG.ml rfl rfl rfl ?_)
     refine RG.callF (vs := [_, _]) rfl rfl En211 rfl (szLabel_s (by omega) (by omega) (hlen _ (by assumption)) (fun r hr => ?_))
     refine RG.mr rfl rfl rfl (RG.nil (WP.seq (WP.region (RG.ml rfl rfl rfl (RG.pv rfl (PV.lss rfl rfl rfl) (RG.nil ?_))))))
     refine WP.cond rfl (fun h5 => ?_) (fun h5 => ?_)
     · have h5 := of_decide_eq_true h5
       have h6 : m - (gd xs i).name.size < 0 := by
         by_cases c : m - (gd xs i).name.size < 0
         · exact c
         · rw [if_neg c] at hr; omega
       rw [he, if_pos h6] at k
       refine WP.seq (WP.region (RG.mr rfl rfl rfl (RG.nil ?_)))
       refine WP.ret ?_
       exact ⟨_, _, ResV.one rfl rfl, Cv.p, k⟩
     · have h5 := of_decide_eq_false h5
       have h6 : ¬ m - (gd xs i).name.size < 0 := fun c => by rw [if_pos c] at hr; omega
       rw [if_neg h6] at he hr
       subst hr
       refine WP.skip (WP.region (RG.ml rfl rfl rfl (RG.pv rfl (PV.add rfl rfl rfl (by omega)) (RG.mr rfl rfl rfl (RG.nil ?_)))))
       exact ⟨rfl, i + 1, _, ⟨by omega, by omega, by omega, he⟩, ⟨rfl, rfl, trivial⟩, ⟨rfl, trivial⟩, Cv.p, by omega⟩
   · have h3 := of_decide_eq_false h3
     rw [he, List.drop_eq_nil_of_le (by omega), szLb] at k
     refine WP.exit ?_
     refine WP.seq (WP.region (RG.ml rfl rfl rfl (RG.mr rfl rfl rfl (RG.nil ?_))))
     refine WP.ret ?_
     exact ⟨_, _, ResV.one rfl rfl, Cv.p, k⟩
def mkLb (_ : Label) (k : Int) : Label := ⟨k, ⟨k + 1, k + 1 + 1⟩, mText (k + 1 + 1 + 1)⟩
def nLb (_ : Label) : Int := 4
theorem nLb_cost (xs : List Label) : costL nLb xs = 4 * xs.length := costL_const 4 xs
theorem mkLb_at {xs : List Label} {i : Nat} {k0 kk : Int} (h : i < xs.length) (e : kk = k0 + 4 * i) : mkLb (gd xs i) (k0 + costL nLb (xs.take i)) = ⟨kk, ⟨kk + 1, kk + 1 + 1⟩, mText (kk + 1 + 1 + 1)⟩ := by
 rw [mkLb, nLb_cost, List.length_take, Nat.min_eq_left (by omega), e]
theorem markLabelS_s {v : Value} {xs : List Label} {k0 : Int} (hk : 0 ≤ k0) (hb : k0 + costL nLb xs ≤ 4611686018427387904) (k : R (vi (k0 + costL nLb xs)) G (osl 191 labelT v (markL mkLb nLb xs k0) :: L)) : CallT Tryz.prog 87 #[v, vi k0] G (osl 191 labelT v xs :: L) R := by
 have hc := nLb_cost xs
 refine CallT.cv (Cv.eqS (markTo_zero (mk := mkLb) (n := nLb) (k := k0)).symm) ?_
 refine CallT.enter (args := _) Tryz.func87 rfl rfl (by kernel_rfl) rfl ?_
 refine WP.seq (WP.region (RG.mr rfl rfl rfl (RG.nil (WP.seq (WP.seq (WP.region (RG.mr rfl rfl rfl ?_)))))))
 refine RG.nil (WP.block ?_)
 refine WP.loop2 [0] (fun (i : Nat) (kk : Int) => i ≤ xs.length ∧ kk = k0 + 4 * i) (fun (i : Nat) (kk : Int) => [(5, vi i), (1, vi kk)]) (fun (i : Nat) (kk : Int) => osl 191 labelT v (markTo mkLb nLb xs k0 i) :: L) (fun (i : Nat) (kk : Int) => xs.length - i) 0 k0 ⟨by omega, by omega⟩ ⟨rfl, rfl, trivial⟩ Cv.p ?_
 rintro i kk τ ⟨hi, hkk⟩
 refine WP.seq (WP.seq (WP.region (RG.ml rfl rfl rfl (RG.pv rfl (PV.move (v := v) rfl rfl) (RG.pv rfl (PV.len (v := v) rfl Tryz.underlying112 rfl SlF.o) (RG.pv rfl (PV.lss rfl rfl rfl) (RG.nil ?_)))))))
 have hml := markTo_len (mk := mkLb) (n := nLb) (k := k0) hi
 refine WP.cond rfl (fun h1 => ?_) (fun h1 => ?_)
 · have h1 := of_decide_eq_true h1
   have h2 : i < xs.length := by omega
   refine WP.skip (WP.seq (WP.block (WP.seq (WP.region (RG.pv rfl (PV.move (v := v) rfl rfl) (RG.ml rfl rfl rfl (RG.ml rfl rfl rfl ?_)))))))
   refine RG.pv rfl (PV.idxS (v := v) rfl Is112 rfl SlF.o rfl rfl (by omega)) (RG.pv rfl (PV.field rfl Fo191_0 rfl) ?_)
   refine RG.ot rfl (OT.storeF (F := labelT) (val := vi) (cv := fun u => [vi u]) (st := Label.s0) rfl Sz2 rfl rfl rfl (Cl.c rfl) rfl (OneC.c rfl) (by exact set_self (by omega)) (by first | omega | (simp; omega)) rfl (fun _ _ => rfl) ?_)
   refine RG.nil (WP.seq (WP.region (RG.ml rfl rfl rfl (RG.pv rfl (PV.add rfl rfl rfl (by first | omega | (simp only [List.length_set]; omega))) (RG.mr rfl rfl rfl (RG.nil (WP.seq ?_)))))))
   refine WP.region (RG.pv rfl (PV.move (v := v) rfl rfl) (RG.ml rfl rfl rfl (RG.ml rfl rfl rfl (RG.pv rfl (PV.idxS (v := v) rfl Is112 rfl SlF.o rfl rfl (by first | omega | (simp only [List.length_set]; omega))) (RG.pv rfl (PV.field rfl Fo191_1 rfl) (RG.pv rfl (PV.field rfl Fo189_0 rfl) ?_))))))
   refine RG.ot rfl (OT.storeF (F := labelT) (val := vi) (cv := fun u => [vi u]) (j := 1) (st := Label.s1_0) rfl Sz2 rfl rfl rfl (Cl.c rfl) rfl (OneC.c rfl) (by rfl) (by first | omega | (simp; omega)) rfl (fun _ _ => rfl) ?_)
   refine RG.nil (WP.seq (WP.region (RG.ml rfl rfl rfl (RG.pv rfl (PV.add rfl rfl rfl (by first | omega | (simp only [List.length_set]; omega))) (RG.mr rfl rfl rfl (RG.nil (WP.seq ?_)))))))
   refine WP.region (RG.pv rfl (PV.move (v := v) rfl rfl) (RG.ml rfl rfl rfl (RG.ml rfl rfl rfl (RG.pv rfl (PV.idxS (v := v) rfl Is112 rfl SlF.o rfl rfl (by first | omega | (simp only [List.length_set]; omega))) (RG.pv rfl (PV.field rfl Fo191_1 rfl) (RG.pv rfl (PV.field rfl Fo189_1 rfl) ?_))))))
   refine RG.ot rfl (OT.storeF (F := labelT) (val := vi) (cv := fun u => [vi u]) (j := 2) (st := Label.s1_1) rfl Sz2 rfl rfl rfl (Cl.c rfl) rfl (OneC.c rfl) (by rfl) (by first | omega | (simp; omega)) rfl (fun _ _ => rfl) ?_)
   refine RG.nil (WP.seq (WP.region (RG.ml rfl rfl rfl (RG.pv rfl (PV.add rfl rfl rfl (by first | omega | (simp only [List.length_set]; omega))) (RG.mr rfl rfl rfl (RG.nil (WP.seq ?_)))))))
   refine WP.region (RG.pv rfl (PV.move (v := v) rfl rfl) (RG.ml rfl rfl rfl (RG.ml rfl rfl rfl ?_)))
   refine RG.callF (vs := [_]) rfl rfl En85 rfl (markText_s (by omega) ?_)
   refine RG.pv rfl (PV.idxS (v := v) rfl Is112 rfl SlF.o rfl rfl (by first | omega | (simp only [List.length_set]; omega))) (RG.pv rfl (PV.field rfl Fo191_2 rfl) ?_)
   refine RG.ot rfl (OT.storeF (F := labelT) (val := Value.string) (cv := fun u => [.string u]) (st := Label.s2) rfl Sz9 rfl rfl rfl (Cl.c rfl) rfl (OneC.c rfl) (by rfl) (by first | omega | (simp; omega)) rfl (fun _ _ => rfl) ?_)
   refine RG.nil (WP.region (RG.ml rfl rfl rfl (RG.pv rfl (PV.add rfl rfl rfl (by first | omega | (simp only [List.length_set]; omega))) (RG.mr rfl rfl rfl (RG.nil (WP.region (RG.ml rfl rfl rfl ?_)))))))
   refine RG.pv rfl (PV.add rfl rfl rfl (by first | omega | (simp only [List.length_set]; omega))) (RG.mr rfl rfl rfl (RG.nil ?_))
   exact ⟨rfl, i + 1, _, ⟨by omega, by omega⟩, ⟨rfl, rfl, trivial⟩, ⟨rfl, trivial⟩, (Cv.eqS (by rw [← markTo_set h2, mkLb_at h2 hkk])), by omega⟩
 · have h1 := of_decide_eq_false h1
   have e : kk = k0 + costL nLb xs := by omega
   rw [← e] at k
   refine WP.exit ?_
   refine WP.seq (WP.region (RG.ml rfl rfl rfl (RG.mr rfl rfl rfl (RG.nil ?_))))
   refine WP.ret ?_
   exact ⟨_, _, ResV.one rfl rfl, (Cv.eqS (markTo_all (by omega))), k⟩
end Go.Proofs.YtgphjofccckloaaGreat
namespace Go.Proofs.YtgphjofccckloaaGreat
set_option linter.unusedVariables false
set_option linter.unusedSimpArgs false
open Go
set_option linter.unusedSimpArgs false
set_option linter.unusedVariables false
set_option maxRecDepth 20000
/-- a cell, without its memory -/
structure ECell where
  name : ByteArray
  shapes : List Shape
  labels : List Label
  insts : List Inst
  deriving DecidableEq, Inhabited
def erCl (c : Cell) : ECell := ⟨c.name, c.shapes.xs, c.labels.xs, c.insts.xs⟩
def erCls (xs : List Cell) : List ECell := xs.map erCl
theorem erCls_len (xs : List Cell) : (erCls xs).length = xs.length := by simp [erCls]
theorem erCls_gd {xs : List Cell} {i : Nat} (h : i < xs.length) : gd (erCls xs) i = erCl (gd xs i) := gd_map _ h
def okSh (s : Shape) : Bool := within s.layer 0 7 && validRect s.box
def okIn (k : Int) (n : Inst) : Bool :=
  within n.cell 0 (k - 1) && validT n.place && within n.cols 1 4 && within n.rows 1 4 && within n.sx (-80) 80 && within n.sy (-80) 80 && (decide (n.sx = 0) || decide (1 < n.cols)) && (decide (n.sy = 0) || decide (1 < n.rows))
def okCell (k : Int) (c : ECell) : Bool :=
  isName c.name && decide ((c.shapes.length : Int) ≤ 24) && decide ((c.labels.length : Int) ≤ 8) && decide ((c.insts.length : Int) ≤ 8) && !(c.shapes.any fun s => !okSh s) && !(c.labels.any fun l => !validLb l) && !(c.insts.any fun n => !okIn k n)
def nameAt (cs : List ECell) (i : Nat) : Bool := decide (∀ j, j < i → (gd cs j).name ≠ (gd cs i).name)
def cellAt (cs : List ECell) (i : Nat) : Bool := okCell i (gd cs i) && nameAt cs i
def okLib (cs : List ECell) : Bool := decide (1 ≤ cs.length) && decide (cs.length ≤ 8) && decide (∀ i, i < cs.length → cellAt cs i = true)
theorem okLib_false {cs : List ECell} {i : Nat} (h : i < cs.length) (e : cellAt cs i = false) : okLib cs = false := by
 simp only [okLib, Bool.and_eq_false_iff, decide_eq_false_iff_not]
 exact .inr fun hh => by rw [hh i h] at e; cases e
theorem okLib_all {cs : List ECell} (h1 : 1 ≤ cs.length) (h2 : cs.length ≤ 8) (h : ∀ i, i < cs.length → cellAt cs i = true) : okLib cs = true := by
 simp only [okLib, Bool.and_eq_true, decide_eq_true_eq]
 exact ⟨⟨h1, h2⟩, h⟩
theorem okLib_len {cs : List ECell} (h : okLib cs = true) : 1 ≤ cs.length ∧ cs.length ≤ 8 := by
 simp only [okLib, Bool.and_eq_true, decide_eq_true_eq] at h; exact h.1
theorem okLib_cell {cs : List ECell} (h : okLib cs = true) {i : Nat} (hi : i < cs.length) : okCell i (gd cs i) = true := by
 simp only [okLib, Bool.and_eq_true, decide_eq_true_eq] at h
 have := h.2 i hi
 simp only [cellAt, Bool.and_eq_true] at this; exact this.1
theorem any_not {α : Type} [Inhabited α] {p : α → Bool} {xs : List α} (h : (xs.any fun a => !p a) = false) {i : Nat} (hi : i < xs.length) : p (gd xs i) = true := by
 rw [List.any_eq_false] at h
 have := h (gd xs i) (gd_mem hi)
 simpa using this
theorem okLib_inst {cs : List ECell} (h : okLib cs = true) {i j : Nat} (hi : i < cs.length) (hj : j < (gd cs i).insts.length) : okIn i (gd (gd cs i).insts j) = true := by
 have := okLib_cell h hi
 simp only [okCell, Bool.and_eq_true, Bool.not_eq_true'] at this
 exact any_not this.2 hj
theorem okLib_shape {cs : List ECell} (h : okLib cs = true) {i j : Nat} (hi : i < cs.length) (hj : j < (gd cs i).shapes.length) : okSh (gd (gd cs i).shapes j) = true := by
 have := okLib_cell h hi
 simp only [okCell, Bool.and_eq_true, Bool.not_eq_true'] at this
 exact any_not this.1.1.2 hj
theorem okLib_cnt {cs : List ECell} (h : okLib cs = true) {i : Nat} (hi : i < cs.length) : (gd cs i).insts.length ≤ 8 ∧ (gd cs i).shapes.length ≤ 24 := by
 have := okLib_cell h hi
 simp only [okCell, Bool.and_eq_true, decide_eq_true_eq] at this
 omega
/-- what an instance of a valid library gives -/
theorem okIn_bd {k : Int} {n : Inst} (h : okIn k n = true) : (0 ≤ n.cell ∧ n.cell ≤ k - 1) ∧ validT n.place = true ∧ (1 ≤ n.cols ∧ n.cols ≤ 4) ∧ (1 ≤ n.rows ∧ n.rows ≤ 4) ∧ (-80 ≤ n.sx ∧ n.sx ≤ 80) ∧ (-80 ≤ n.sy ∧ n.sy ≤ 80) := by
 simp only [okIn, within, Bool.and_eq_true, decide_eq_true_eq] at h
 exact ⟨h.1.1.1.1.1.1.1, h.1.1.1.1.1.1.2, h.1.1.1.1.1.2, h.1.1.1.1.2, h.1.1.1.2, h.1.1.2⟩
theorem range_gd {n q : Nat} (h : q < n) : gd (List.range n) q = q := by unfold gd; simp [h]
def elPlace (n : Inst) (c r : Int) : Trans := ⟨n.place.o, n.place.x + c * n.sx, n.place.y + r * n.sy⟩
def elsOf (n : Inst) : List HElem := (List.range (n.rows.toNat * n.cols.toNat)).map fun q => ⟨n.cell, elPlace n ((q % n.cols.toNat : Nat) : Int) ((q / n.cols.toNat : Nat) : Int)⟩
def elems (ns : List Inst) : List HElem := ns.flatMap elsOf
theorem elsOf_len (n : Inst) : (elsOf n).length = n.rows.toNat * n.cols.toNat := by simp [elsOf]
theorem elsOf_gd {n : Inst} {c r : Nat} (hc : c < n.cols.toNat) (hr : r < n.rows.toNat) : r * n.cols.toNat + c < (elsOf n).length ∧ gd (elsOf n) (r * n.cols.toNat + c) = ⟨n.cell, elPlace n c r⟩ := by
 have h1 : r * n.cols.toNat + c < n.rows.toNat * n.cols.toNat := by
   have := Nat.mul_le_mul_right n.cols.toNat (show r + 1 ≤ n.rows.toNat by omega)
   rw [Nat.add_mul] at this; omega
 refine ⟨by rw [elsOf_len]; exact h1, ?_⟩
 have hm : (r * n.cols.toNat + c) % n.cols.toNat = c := by rw [Nat.add_comm, Nat.add_mul_mod_self_right, Nat.mod_eq_of_lt hc]
 have hd : (r * n.cols.toNat + c) / n.cols.toNat = r := by rw [Nat.add_comm, Nat.add_mul_div_right _ _ (by omega), Nat.div_eq_of_lt hc, Nat.zero_add]
 have hr : gd (List.range (n.rows.toNat * n.cols.toNat)) (r * n.cols.toNat + c) = r * n.cols.toNat + c := range_gd h1
 rw [elsOf, gd_map _ (by simpa using h1), hr, hm, hd]
theorem elsOf_step {n : Inst} {c r : Nat} (hc : c < n.cols.toNat) (hr : r < n.rows.toNat) : (elsOf n).take (r * n.cols.toNat + (c + 1)) = (elsOf n).take (r * n.cols.toNat + c) ++ [⟨n.cell, elPlace n c r⟩] := by
 obtain ⟨h1, h2⟩ := elsOf_gd hc hr
 rw [← Nat.add_assoc, List.take_add_one, getG h1, h2]; rfl
theorem elems_take {ns : List Inst} {i : Nat} (h : i < ns.length) : elems (ns.take (i + 1)) = elems (ns.take i) ++ elsOf (gd ns i) := by
 rw [elems, elems, List.take_add_one, getG h, List.flatMap_append]; simp
theorem elems_split {ns : List Inst} {i : Nat} (h : i < ns.length) : elems ns = elems (ns.take i) ++ elsOf (gd ns i) ++ elems (ns.drop (i + 1)) := by
 conv => lhs; rw [← List.take_append_drop (i + 1) ns]
 rw [elems, List.flatMap_append]
 have := elems_take h
 rw [elems] at this
 rw [this]; rfl
theorem elems_at {ns : List Inst} {i c r : Nat} (h : i < ns.length) (hc : c < (gd ns i).cols.toNat) (hr : r < (gd ns i).rows.toNat) :
   (elems (ns.take i)).length + (r * (gd ns i).cols.toNat + c) < (elems ns).length ∧ gd (elems ns) ((elems (ns.take i)).length + (r * (gd ns i).cols.toNat + c)) = ⟨(gd ns i).cell, elPlace (gd ns i) c r⟩ := by
 obtain ⟨h1, h2⟩ := elsOf_gd hc hr
 rw [elems_split h]
 refine ⟨by simp only [List.length_append]; omega, ?_⟩
 rw [List.append_assoc, gd_app_at, gd_app_l h1, h2]
/-- each element is one of an instance -/
theorem elems_mem {ns : List Inst} {e : HElem} (h : e ∈ elems ns) : ∃ j c r : Nat, j < ns.length ∧ c < (gd ns j).cols.toNat ∧ r < (gd ns j).rows.toNat ∧ e = ⟨(gd ns j).cell, elPlace (gd ns j) c r⟩ := by
 obtain ⟨n, hn, he⟩ := List.mem_flatMap.1 h
 obtain ⟨j, hj, rfl⟩ := List.getElem_of_mem hn
 rw [← gd_eq hj] at he
 obtain ⟨q, hq, rfl⟩ := List.mem_map.1 he
 have hq := List.mem_range.1 hq
 have h0 : 0 < (gd ns j).cols.toNat := by
   rcases Nat.eq_zero_or_pos (gd ns j).cols.toNat with h | h
   · rw [h] at hq; omega
   · exact h
 exact ⟨j, q % (gd ns j).cols.toNat, q / (gd ns j).cols.toNat, hj, Nat.mod_lt _ h0, (Nat.div_lt_iff_lt_mul h0).2 hq, rfl⟩
theorem mul_bd {a b A B : Int} (ha : 0 ≤ a ∧ a ≤ A) (hb : -B ≤ b ∧ b ≤ B) (hB : 0 ≤ B) : -(A * B) ≤ a * b ∧ a * b ≤ A * B := by
 have h1 : a * b ≤ a * B := Int.mul_le_mul_of_nonneg_left hb.2 ha.1
 have h2 : a * -B ≤ a * b := Int.mul_le_mul_of_nonneg_left hb.1 ha.1
 have h3 : a * B ≤ A * B := Int.mul_le_mul_of_nonneg_right ha.2 hB
 rw [Int.mul_neg] at h2
 omega
theorem elPlace_bd {k : Int} {n : Inst} (h : okIn k n = true) {c r : Nat} (hc : c < n.cols.toNat) (hr : r < n.rows.toNat) : (0 ≤ (elPlace n c r).o ∧ (elPlace n c r).o ≤ 7) ∧ (-320 ≤ (elPlace n c r).x ∧ (elPlace n c r).x ≤ 320) ∧ -320 ≤ (elPlace n c r).y ∧ (elPlace n c r).y ≤ 320 := by
 obtain ⟨_, h2, h3, h4, h5, h6⟩ := okIn_bd h
 obtain ⟨q1, q2, q3⟩ := validT_iff.1 h2
 have e1 := mul_bd (a := (c : Int)) (b := n.sx) (A := 3) (B := 80) (by omega) h5 (by omega)
 have e2 := mul_bd (a := (r : Int)) (b := n.sy) (A := 3) (B := 80) (by omega) h6 (by omega)
 refine ⟨q1, ?_, ?_⟩ <;> simp only [elPlace] <;> omega
theorem elem_bd {cs : List ECell} (h : okLib cs = true) {k : Nat} (hk : k < cs.length) {i : Nat} (hi : i < (elems (gd cs k).insts).length) :
   (0 ≤ (gd (elems (gd cs k).insts) i).cell ∧ (gd (elems (gd cs k).insts) i).cell < k) ∧ (0 ≤ (gd (elems (gd cs k).insts) i).place.o ∧ (gd (elems (gd cs k).insts) i).place.o ≤ 7) ∧ (-320 ≤ (gd (elems (gd cs k).insts) i).place.x ∧ (gd (elems (gd cs k).insts) i).place.x ≤ 320) ∧ -320 ≤ (gd (elems (gd cs k).insts) i).place.y ∧ (gd (elems (gd cs k).insts) i).place.y ≤ 320 := by
 obtain ⟨j, c, r, hj, hc, hr, e⟩ := elems_mem (gd_mem hi)
 have ho := okLib_inst h hk hj
 rw [e]
 exact ⟨by have := (okIn_bd ho).1; simp only; omega, elPlace_bd ho hc hr⟩
theorem elems_bd {cs : List ECell} (h : okLib cs = true) {k : Nat} (hk : k < cs.length) : ∀ i, i ≤ (gd cs k).insts.length → (elems ((gd cs k).insts.take i)).length ≤ 16 * i
 | 0, _ => by simp [elems]
 | i + 1, hi => by
   have ih := elems_bd h hk i (by omega)
   obtain ⟨_, _, h3, h4, _, _⟩ := okIn_bd (okLib_inst h hk (j := i) (by omega))
   have := Nat.mul_le_mul (show (gd (gd cs k).insts i).rows.toNat ≤ 4 by omega) (show (gd (gd cs k).insts i).cols.toNat ≤ 4 by omega)
   rw [elems_take (by omega), List.length_append, elsOf_len]; omega
theorem elems_len_bd {cs : List ECell} (h : okLib cs = true) {k : Nat} (hk : k < cs.length) : (elems (gd cs k).insts).length ≤ 128 := by
 have := elems_bd h hk _ (Nat.le_refl _)
 rw [List.take_of_length_le (Nat.le_refl _)] at this
 have := (okLib_cnt h hk).1
 omega
def cntI (ks : List Int) (n : Inst) : Int := n.cols * n.rows * gd ks n.cell.toNat
def ownCnt (ks : List Int) (ns : List Inst) : Int := 1 + costL (cntI ks) ns
def cnts (cs : List ECell) : Nat → List Int
  | 0 => []
  | n + 1 => cnts cs n ++ [ownCnt (cnts cs n) (gd cs n).insts]
theorem cnts_len (cs : List ECell) : ∀ n, (cnts cs n).length = n
 | 0 => rfl
 | n + 1 => by simp [cnts, cnts_len cs n]
def cntOf (cs : List ECell) (k : Nat) : Int := ownCnt (cnts cs k) (gd cs k).insts
theorem cnts_gd (cs : List ECell) : ∀ {n i : Nat}, i < n → gd (cnts cs n) i = cntOf cs i
 | n + 1, i, h => by
   rw [cnts]
   by_cases e : i < n
   · rw [gd_app_l (by rw [cnts_len]; exact e), cnts_gd cs e]
   · obtain rfl : i = n := by omega
     have := gd_app_r (xs := cnts cs i) (a := ownCnt (cnts cs i) (gd cs i).insts)
     rw [cnts_len] at this
     rw [this]; rfl
theorem costL_bdH {α : Type} [Inhabited α] {n : α → Int} {B : Int} (hB : 0 ≤ B) {xs : List α} (h : ∀ i, i < xs.length → 0 ≤ n (gd xs i) ∧ n (gd xs i) ≤ B) : ∀ i, i ≤ xs.length → 0 ≤ costL n (xs.take i) ∧ costL n (xs.take i) ≤ B * i
 | 0, _ => by simp [costL]
 | i + 1, hi => by
   have ih := costL_bdH hB h i (by omega)
   have := h i (by omega)
   rw [costL_take n (by omega)]
   have e : B * ((i + 1 : Nat) : Int) = B * i + B := by rw [Int.natCast_add, Int.mul_add]; simp
   omega
theorem cntI_bd {k M : Int} {ks : List Int} {n : Inst} (h : okIn k n = true) (hk : 0 ≤ gd ks n.cell.toNat ∧ gd ks n.cell.toNat ≤ M) : 0 ≤ cntI ks n ∧ cntI ks n ≤ 16 * M := by
 obtain ⟨_, _, h3, h4, _, _⟩ := okIn_bd h
 have e1 := mul_bd (a := n.cols) (b := n.rows) (A := 4) (B := 4) (by omega) (by omega) (by omega)
 have e0 : 0 ≤ n.cols * n.rows := Int.mul_nonneg (by omega) (by omega)
 have e2 := mul_bd (a := n.cols * n.rows) (b := gd ks n.cell.toNat) (A := 16) (B := M) (by omega) (by omega) (by omega)
 have e3 : 0 ≤ n.cols * n.rows * gd ks n.cell.toNat := Int.mul_nonneg e0 hk.1
 simp only [cntI]; omega
theorem ownCnt_bd {cs : List ECell} (h : okLib cs = true) {M : Int} (hM : 0 ≤ M) {k : Nat} (hk : k < cs.length) (hh : ∀ i, i < k → 0 ≤ gd (cnts cs k) i ∧ gd (cnts cs k) i ≤ M) : ∀ i, i ≤ (gd cs k).insts.length → 1 ≤ 1 + costL (cntI (cnts cs k)) ((gd cs k).insts.take i) ∧ 1 + costL (cntI (cnts cs k)) ((gd cs k).insts.take i) ≤ 1 + 128 * M := by
 intro i hi
 have hc := (okLib_cnt h hk).1
 have := costL_bdH (n := cntI (cnts cs k)) (B := 16 * M) (by omega) (xs := (gd cs k).insts) (fun j hj => cntI_bd (okLib_inst h hk hj) (hh _ (by have := (okIn_bd (okLib_inst h hk hj)).1; omega))) i hi
 have e : 16 * M * i ≤ 16 * M * 8 := Int.mul_le_mul_of_nonneg_left (by omega) (by omega)
 omega
theorem cntOf_bd {cs : List ECell} (h : okLib cs = true) : ∀ k, k < cs.length → 1 ≤ cntOf cs k ∧ cntOf cs k ≤ 129 ^ (k + 1) := by
 intro k
 induction k using Nat.strongRecOn with
 | ind k ih =>
   intro hk
   have := ownCnt_bd h (M := 129 ^ k) (Int.le_of_lt (Int.pow_pos (show (0 : Int) < 129 by omega))) hk (fun i hi => by
     have hb := ih i hi (by omega)
     rw [cnts_gd cs hi]
     refine ⟨by omega, Int.le_trans hb.2 ?_⟩
     have := Nat.pow_le_pow_right (n := 129) (by omega) (show i + 1 ≤ k by omega)
     exact_mod_cast this) _ (Nat.le_refl _)
   rw [List.take_of_length_le (Nat.le_refl _)] at this
   refine ⟨this.1, Int.le_trans this.2 ?_⟩
   have h1 : (1 : Int) ≤ 129 ^ k := by
     have : (0 : Int) < 129 ^ k := Int.pow_pos (show (0 : Int) < 129 by omega)
     omega
   rw [Int.pow_succ]; omega
theorem cnts_big {cs : List ECell} (h : okLib cs = true) {k : Nat} (hk : k < cs.length) : ∀ i, i < k → 0 ≤ gd (cnts cs k) i ∧ gd (cnts cs k) i ≤ 594467302491009 := by
 intro i hi
 rw [cnts_gd cs hi]
 have h1 := cntOf_bd h i (by omega)
 have h2 := (okLib_len h).2
 have : (129 : Nat) ^ (i + 1) ≤ 129 ^ 7 := Nat.pow_le_pow_right (by omega) (by omega)
 have h3' : ((129 : Int) ^ (i + 1)) ≤ 129 ^ 7 := by exact_mod_cast this
 have h3 : ((129 : Int) ^ (i + 1)) ≤ 594467302491009 := Int.le_trans h3' (by decide)
 omega
structure EOcc where
  cell : Int
  place : Trans
  path : List Int
  deriving DecidableEq, Inhabited
def erO (o : Occ) : EOcc := ⟨o.cell, o.place, o.path.xs⟩
def erOs (xs : List Occ) : List EOcc := xs.map erO
theorem erOs_len (xs : List Occ) : (erOs xs).length = xs.length := by simp [erOs]
theorem erOs_gd {xs : List Occ} {i : Nat} (h : i < xs.length) : gd (erOs xs) i = erO (gd xs i) := gd_map _ h
def cmpo (a b : Int) : Int := (if 4 ≤ b then b % 4 + 4 - a % 4 else b % 4 + a % 4) % 4 + (if decide (4 ≤ a) = decide (4 ≤ b) then 0 else 4)
theorem cmpo_in {a b : Int} : 0 ≤ cmpo a b ∧ cmpo a b ≤ 7 := by
 unfold cmpo
 generalize (if 4 ≤ b then b % 4 + 4 - a % 4 else b % 4 + a % 4) = z
 split <;> omega
def cmpT (t u : Trans) : Trans := ⟨cmpo t.o u.o, (moveP u ⟨t.x, t.y⟩).x, (moveP u ⟨t.x, t.y⟩).y⟩
def kid (o : EOcc) (e : HElem) (n : Nat) : EOcc := ⟨e.cell, cmpT e.place o.place, o.path ++ [(n : Int)]⟩
def occF (cs : List ECell) : Nat → EOcc → List EOcc
  | 0, o => [o]
  | f + 1, o => o :: ((List.range (elems (gd cs o.cell.toNat).insts).length).flatMap fun n => occF cs f (kid o (gd (elems (gd cs o.cell.toNat).insts) n) n))
/-- an occurrence and those below its first elements -/
def occTo (cs : List ECell) (f : Nat) (o : EOcc) (i : Nat) : List EOcc := o :: ((List.range i).flatMap fun n => occF cs f (kid o (gd (elems (gd cs o.cell.toNat).insts) n) n))
theorem occTo_zero (cs : List ECell) (f : Nat) (o : EOcc) : occTo cs f o 0 = [o] := rfl
theorem occTo_succ (cs : List ECell) (f : Nat) (o : EOcc) (i : Nat) : occTo cs f o (i + 1) = occTo cs f o i ++ occF cs f (kid o (gd (elems (gd cs o.cell.toNat).insts) i) i) := by
 simp [occTo, List.range_succ, List.flatMap_append]
theorem occTo_all (cs : List ECell) (f : Nat) (o : EOcc) : occTo cs f o (elems (gd cs o.cell.toNat).insts).length = occF cs (f + 1) o := rfl
def oIn (f : Nat) (o : EOcc) : Prop := (0 ≤ o.cell ∧ o.cell < f) ∧ (0 ≤ o.place.o ∧ o.place.o ≤ 7) ∧ (-(320 * (8 - (f : Int))) ≤ o.place.x ∧ o.place.x ≤ 320 * (8 - f)) ∧ -(320 * (8 - (f : Int))) ≤ o.place.y ∧ o.place.y ≤ 320 * (8 - f)
theorem kid_in {cs : List ECell} (h : okLib cs = true) {f : Nat} {o : EOcc} (ho : oIn (f + 1) o) (hl : o.cell.toNat < cs.length) {i : Nat} (hi : i < (elems (gd cs o.cell.toNat).insts).length) : oIn f (kid o (gd (elems (gd cs o.cell.toNat).insts) i) i) := by
 obtain ⟨h1, h2, h3, h4⟩ := elem_bd h hl hi
 obtain ⟨⟨k1, k2⟩, k3, k4, k5⟩ := ho
 obtain ⟨t1, t2, t3, t4⟩ : InB 320 (turnP o.place.o ⟨(gd (elems (gd cs o.cell.toNat).insts) i).place.x, (gd (elems (gd cs o.cell.toNat).insts) i).place.y⟩) := turnP_in ⟨h3.1, h3.2, h4.1, h4.2⟩
 refine ⟨?_, ?_, ?_, ?_⟩
 · simp only [kid]; omega
 · exact cmpo_in
 · simp only [kid, cmpT, moveP]; omega
 · simp only [kid, cmpT, moveP]; omega
theorem flatMap_len {α : Type} (g : Nat → List α) : ∀ n, (((List.range n).flatMap g).length : Int) = ((List.range n).map fun i => ((g i).length : Int)).sum
 | 0 => rfl
 | n + 1 => by
   have ih := flatMap_len g n
   simp only [List.range_succ, List.flatMap_append, List.length_append, List.map_append, List.sum_append, Int.natCast_add, ih]
   simp
/-- the sum over the elements is the sum over the instances -/
theorem sum_elems (g : Int → Int) : ∀ ns : List Inst, (∀ i, i < ns.length → 1 ≤ (gd ns i).cols ∧ 1 ≤ (gd ns i).rows) → (((elems ns).map fun e => g e.cell).sum : Int) = costL (fun n => n.cols * n.rows * g n.cell) ns
 | [], _ => rfl
 | n :: ns, h => by
   have ih := sum_elems g ns (fun i hi => by have := h (i + 1) (by simpa using hi); simpa [gd] using this)
   have h0 := h 0 (by simp)
   have e0 : gd (n :: ns) 0 = n := by simp [gd]
   rw [e0] at h0
   have e : elems (n :: ns) = elsOf n ++ elems ns := rfl
   rw [e, List.map_append, List.sum_append, ih, costL]
   congr 1
   have : (elsOf n).map (fun e => g e.cell) = List.replicate (n.rows.toNat * n.cols.toNat) (g n.cell) := by
     rw [elsOf, List.map_map, List.eq_replicate_iff]
     simp [Function.comp_def]
   rw [this, List.sum_replicate_int]
   rw [Int.natCast_mul, Int.toNat_of_nonneg (by omega), Int.toNat_of_nonneg (by omega), Int.mul_comm n.rows]
theorem map_range_gd {α β : Type} [Inhabited α] (g : α → β) (xs : List α) : (List.range xs.length).map (fun i => g (gd xs i)) = xs.map g := by
 apply List.ext_getElem?
 intro i
 by_cases hi : i < xs.length
 · simp [hi, gd_eq hi]
 · simp [List.getElem?_eq_none (Nat.le_of_not_lt hi), List.getElem?_eq_none (l := List.range xs.length) (by simpa using Nat.le_of_not_lt hi)]
theorem occF_len {cs : List ECell} (h : okLib cs = true) : ∀ (f : Nat) (o : EOcc), 0 ≤ o.cell → o.cell.toNat < f → o.cell.toNat < cs.length → ((occF cs f o).length : Int) = cntOf cs o.cell.toNat
 | 0, _, _, h, _ => by omega
 | f + 1, o, h0, hf, hl => by
   rw [occF, List.length_cons, Int.natCast_add, flatMap_len]
   have e1 : ∀ i ∈ List.range (elems (gd cs o.cell.toNat).insts).length, ((occF cs f (kid o (gd (elems (gd cs o.cell.toNat).insts) i) i)).length : Int) = cntOf cs (gd (elems (gd cs o.cell.toNat).insts) i).cell.toNat := fun i hi => by
     have hi := List.mem_range.1 hi
     have hb := (elem_bd h hl hi).1
     exact occF_len h f _ hb.1 (by simp only [kid]; omega) (by simp only [kid]; omega)
   rw [List.map_congr_left e1, map_range_gd (fun e : HElem => cntOf cs e.cell.toNat), sum_elems (fun c => cntOf cs c.toNat) _ (fun i hi => by have := okIn_bd (okLib_inst h hl hi); omega), cntOf, ownCnt]
   have e2 : ∀ ns : List Inst, (∀ n ∈ ns, n.cell.toNat < o.cell.toNat) → costL (fun n => n.cols * n.rows * cntOf cs n.cell.toNat) ns = costL (cntI (cnts cs o.cell.toNat)) ns := by
     intro ns
     induction ns with
     | nil => intro _; rfl
     | cons n ns ih =>
       intro hn
       rw [costL, costL, ih (fun m hm => hn m (.tail _ hm)), cntI, cnts_gd cs (hn n (.head _))]
   rw [e2 _ (fun n hn => by
     obtain ⟨j, hj, rfl⟩ := List.getElem_of_mem hn
     have := (okIn_bd (okLib_inst h hl hj)).1
     rw [gd_eq hj] at this
     omega)]
   omega
theorem occTo_le {cs : List ECell} {f : Nat} {o : EOcc} {i : Nat} (hi : i ≤ (elems (gd cs o.cell.toNat).insts).length) : (occTo cs f o i).length ≤ (occF cs (f + 1) o).length := by
 rw [← occTo_all, occTo, occTo, List.length_cons, List.length_cons]
 have : (List.range i).flatMap (fun n => occF cs f (kid o (gd (elems (gd cs o.cell.toNat).insts) n) n)) = ((List.range (elems (gd cs o.cell.toNat).insts).length).take i).flatMap (fun n => occF cs f (kid o (gd (elems (gd cs o.cell.toNat).insts) n) n)) := by
   rw [List.take_range, Nat.min_eq_left hi]
 rw [this]
 have h2 := congrArg List.length (congrArg (List.flatMap (fun n => occF cs f (kid o (gd (elems (gd cs o.cell.toNat).insts) n) n))) (List.take_append_drop i (List.range (elems (gd cs o.cell.toNat).insts).length)))
 rw [List.flatMap_append, List.length_append] at h2
 omega
def top (cell : Int) : EOcc := ⟨cell, ⟨0, 0, 0⟩, []⟩
def occAll (cs : List ECell) (cell : Int) : List EOcc := occF cs (cell.toNat + 1) (top cell)
def hasCl (cs : List ECell) (cell : Int) : Bool := okLib cs && within cell 0 ((cs.length : Int) - 1)
def occE (cs : List ECell) (cell : Int) : Int :=
  bif !okLib cs then 1 else bif !within cell 0 ((cs.length : Int) - 1) then 5 else bif decide (200 < cntOf cs cell.toNat) then 3 else bif (occAll cs cell).any fun o => !validT o.place then 2 else 0
def occR (cs : List ECell) (cell : Int) : List EOcc := bif decide (occE cs cell = 0) then occAll cs cell else []
theorem occE_zero {cs : List ECell} {cell : Int} (h : occE cs cell = 0) : okLib cs = true ∧ (0 ≤ cell ∧ cell < cs.length) ∧ cntOf cs cell.toNat ≤ 200 ∧ ∀ o ∈ occAll cs cell, validT o.place = true := by
 unfold occE at h
 cases h1 : okLib cs with
 | false => rw [h1] at h; cases h
 | true =>
   cases h2 : within cell 0 ((cs.length : Int) - 1) with
   | false => rw [h1, h2] at h; cases h
   | true =>
     cases h3 : decide (200 < cntOf cs cell.toNat) with
     | true => rw [h1, h2, h3] at h; cases h
     | false =>
       cases h4 : (occAll cs cell).any fun o => !validT o.place with
       | true => rw [h1, h2, h3, h4] at h; cases h
       | false =>
         refine ⟨rfl, ?_, ?_, fun o ho => ?_⟩
         · simp only [within, Bool.and_eq_true, decide_eq_true_eq] at h2; omega
         · have := of_decide_eq_false h3; omega
         · rw [List.any_eq_false] at h4
           simpa using h4 o ho
theorem occR_ok {cs : List ECell} {cell : Int} (h : occE cs cell = 0) : occR cs cell = occAll cs cell := by rw [occR, h]; rfl
theorem occR_no {cs : List ECell} {cell : Int} (h : occE cs cell ≠ 0) : occR cs cell = [] := by rw [occR, decide_eq_false h]; rfl
theorem occAll_len {cs : List ECell} {cell : Int} (h : okLib cs = true) (hc : 0 ≤ cell ∧ cell < cs.length) : ((occAll cs cell).length : Int) = cntOf cs cell.toNat := occF_len h _ (top cell) hc.1 (by simp [top]) (by simp only [top]; omega)
/-- the cells of occurrences are those of the library -/
theorem occF_cell {cs : List ECell} (h : okLib cs = true) : ∀ (f : Nat) (o : EOcc), 0 ≤ o.cell → o.cell.toNat < f → o.cell.toNat < cs.length → ∀ q ∈ occF cs f o, 0 ≤ q.cell ∧ q.cell ≤ o.cell
 | 0, _, _, h, _, _, _ => by omega
 | f + 1, o, h0, hf, hl, q, hq => by
   rw [occF, List.mem_cons] at hq
   rcases hq with rfl | hq
   · exact ⟨h0, Int.le_refl _⟩
   · obtain ⟨i, hi, hq⟩ := List.mem_flatMap.1 hq
     have hb := (elem_bd h hl (List.mem_range.1 hi)).1
     have := occF_cell h f _ hb.1 (by simp only [kid]; omega) (by simp only [kid]; omega) q hq
     simp only [kid] at this
     omega
theorem occR_cell {cs : List ECell} {cell : Int} {i : Nat} (hi : i < (occR cs cell).length) : okLib cs = true ∧ (0 ≤ (gd (occR cs cell) i).cell ∧ (gd (occR cs cell) i).cell < cs.length) ∧ validT (gd (occR cs cell) i).place = true ∧ (occR cs cell).length ≤ 200 := by
 by_cases h : occE cs cell = 0
 · have hm := gd_mem hi
   rw [occR_ok h] at hm ⊢
   obtain ⟨h1, h2, h3, h4⟩ := occE_zero h
   have := occF_cell h1 _ (top cell) h2.1 (by simp [top]) (by simp only [top]; omega) _ hm
   have hl := occAll_len h1 h2
   exact ⟨h1, by simp only [top] at this; omega, h4 _ hm, by omega⟩
 · rw [occR_no h] at hi; simp at hi
def flatOf (cs : List ECell) (o : EOcc) : List Shape := (gd cs o.cell.toNat).shapes.map fun s => ⟨s.layer, moveR o.place s.box⟩
def flatL (cs : List ECell) (os : List EOcc) : List Shape := os.flatMap (flatOf cs)
theorem flatOf_len (cs : List ECell) (o : EOcc) : (flatOf cs o).length = (gd cs o.cell.toNat).shapes.length := by simp [flatOf]
theorem flatL_take {cs : List ECell} {os : List EOcc} {i : Nat} (h : i < os.length) : flatL cs (os.take (i + 1)) = flatL cs (os.take i) ++ flatOf cs (gd os i) := by
 rw [flatL, flatL, List.take_add_one, getG h, List.flatMap_append]; simp
theorem flatOf_step {cs : List ECell} {o : EOcc} {k : Nat} (h : k < (gd cs o.cell.toNat).shapes.length) : (flatOf cs o).take (k + 1) = (flatOf cs o).take k ++ [⟨(gd (gd cs o.cell.toNat).shapes k).layer, moveR o.place (gd (gd cs o.cell.toNat).shapes k).box⟩] := by
 rw [List.take_add_one, getG (by rw [flatOf_len]; exact h), flatOf, gd_map _ h]; rfl
theorem flatL_bd {cs : List ECell} {cell : Int} : ∀ i, i ≤ (occR cs cell).length → (flatL cs ((occR cs cell).take i)).length ≤ 24 * i
 | 0, _ => by simp [flatL]
 | i + 1, hi => by
   have ih := flatL_bd (cs := cs) (cell := cell) i (by omega)
   obtain ⟨h1, h2, _, _⟩ := occR_cell (cs := cs) (cell := cell) (i := i) (by omega)
   have := (okLib_cnt h1 (i := (gd (occR cs cell) i).cell.toNat) (by omega)).2
   rw [flatL_take (by omega), List.length_append, flatOf_len]; omega
def shE (cs : List ECell) (cell : Int) : Int := bif decide (occE cs cell = 0) then (bif (flatL cs (occR cs cell)).any fun s => !validRect s.box then 2 else 0) else occE cs cell
def shR (cs : List ECell) (cell : Int) : List Shape := bif decide (shE cs cell = 0) then flatL cs (occR cs cell) else []
theorem shE_zero {cs : List ECell} {cell : Int} (h : shE cs cell = 0) : occE cs cell = 0 ∧ ∀ s ∈ flatL cs (occR cs cell), validRect s.box = true := by
 unfold shE at h
 by_cases h1 : occE cs cell = 0
 · rw [decide_eq_true h1, cond_true] at h
   cases h2 : (flatL cs (occR cs cell)).any fun s => !validRect s.box with
   | true => rw [h2] at h; cases h
   | false =>
     refine ⟨h1, fun s hs => ?_⟩
     rw [List.any_eq_false] at h2
     simpa using h2 s hs
 · rw [decide_eq_false h1, cond_false] at h; exact absurd h h1
theorem shR_ok {cs : List ECell} {cell : Int} (h : shE cs cell = 0) : shR cs cell = flatL cs (occR cs cell) := by rw [shR, h]; rfl
theorem shR_no {cs : List ECell} {cell : Int} (h : shE cs cell ≠ 0) : shR cs cell = [] := by rw [shR, decide_eq_false h]; rfl
theorem shR_valid {cs : List ECell} {cell : Int} {i : Nat} (hi : i < (shR cs cell).length) : validRect (gd (shR cs cell) i).box = true := by
 by_cases h : shE cs cell = 0
 · have hm := gd_mem hi
   rw [shR_ok h] at hm ⊢
   exact (shE_zero h).2 _ hm
 · rw [shR_no h] at hi; simp at hi
def boxesOf (ss : List Shape) (l : Nat) : List Rect := (ss.filter fun s => decide (s.layer = (l : Int))).map Shape.box
def layL (ss : List Shape) : List (List Rect) := (List.range 8).map fun l => canon (bits (boxesOf ss l))
theorem boxesOf_step {ss : List Shape} {i l : Nat} (h : i < ss.length) : boxesOf (ss.take (i + 1)) l = boxesOf (ss.take i) l ++ (if (gd ss i).layer = (l : Int) then [(gd ss i).box] else []) := by
 rw [boxesOf, boxesOf, List.take_add_one, getG h, List.filter_append, List.map_append]
 by_cases e : (gd ss i).layer = (l : Int) <;> simp [e]
theorem validR_in {r : Rect} (h : validRect r = true) : RIn 40 r := by
 have := valid_bd h; exact this
def rootOf (o : EOcc) : Int := match o.path with | [] => -1 | a :: _ => a
def rootAt (cs : List ECell) (o : EOcc) : List RShape := (flatOf cs o).map fun s => ⟨rootOf o, s⟩
def rootL (cs : List ECell) (os : List EOcc) : List RShape := os.flatMap (rootAt cs)
theorem rootL_flat (cs : List ECell) (os : List EOcc) : (rootL cs os).map RShape.shape = flatL cs os := by
 induction os with
 | nil => rfl
 | cons o os ih =>
   have e1 : rootL cs (o :: os) = rootAt cs o ++ rootL cs os := rfl
   have e2 : flatL cs (o :: os) = flatOf cs o ++ flatL cs os := rfl
   rw [e1, e2, List.map_append, ih]
   congr 1
   simp [rootAt, Function.comp_def]
theorem rootAt_len (cs : List ECell) (o : EOcc) : (rootAt cs o).length = (gd cs o.cell.toNat).shapes.length := by rw [rootAt, List.length_map, flatOf_len]
theorem rootL_len (cs : List ECell) (os : List EOcc) : (rootL cs os).length = (flatL cs os).length := by rw [← rootL_flat, List.length_map]
theorem flatL_split {cs : List ECell} {os : List EOcc} {i : Nat} (h : i < os.length) : flatL cs os = flatL cs (os.take i) ++ (flatOf cs (gd os i) ++ flatL cs (os.drop (i + 1))) := by
 conv => lhs; rw [← List.take_append_drop (i + 1) os]
 rw [flatL, List.flatMap_append]
 have := flatL_take (cs := cs) h
 rw [flatL] at this
 rw [this, List.append_assoc]; rfl
/-- the next rooted shape -/
theorem rootAt_step {cs : List ECell} {os : List EOcc} {i k : Nat} (h : i < os.length) (hk : k < (gd cs (gd os i).cell.toNat).shapes.length) :
   (rootL cs (os.take i) ++ (rootAt cs (gd os i)).take k).length < (flatL cs os).length ∧ (rootAt cs (gd os i)).take (k + 1) = (rootAt cs (gd os i)).take k ++ [⟨rootOf (gd os i), gd (flatL cs os) (rootL cs (os.take i) ++ (rootAt cs (gd os i)).take k).length⟩] := by
 have hl : ((rootAt cs (gd os i)).take k).length = k := by rw [List.length_take, rootAt_len]; omega
 have hf : k < (flatOf cs (gd os i)).length := by rw [flatOf_len]; exact hk
 have e : gd (flatL cs os) (rootL cs (os.take i) ++ (rootAt cs (gd os i)).take k).length = gd (flatOf cs (gd os i)) k := by
   rw [List.length_append, hl, rootL_len, flatL_split h, gd_app_at, gd_app_l hf]
 refine ⟨?_, ?_⟩
 · rw [List.length_append, hl, rootL_len, flatL_split h, List.length_append, List.length_append]; omega
 · rw [e, List.take_add_one, getG (by rw [rootAt_len]; exact hk), rootAt, gd_map _ hf]; rfl
def elN (cs : List ECell) (cell : Int) : Nat := (elems (gd cs cell.toNat).insts).length
theorem shE_lib {cs : List ECell} {cell : Int} (h : shE cs cell = 0) : okLib cs = true ∧ 0 ≤ cell ∧ cell < cs.length := by
 have := occE_zero (shE_zero h).1
 exact ⟨this.1, this.2.1⟩
/-- the composed orientation as the reference writes it -/
theorem cmpo_r {a b : Int} (ha : 0 ≤ a ∧ a ≤ 7) (hb : 0 ≤ b ∧ b ≤ 7) : cmpo a b = (b % 4 + (if 4 ≤ b then -(a % 4) else a % 4) + 4) % 4 + 4 * (if 4 ≤ b then 1 - a / 4 else a / 4) := by
 have ea : a = 0 ∨ a = 1 ∨ a = 2 ∨ a = 3 ∨ a = 4 ∨ a = 5 ∨ a = 6 ∨ a = 7 := by omega
 have eb : b = 0 ∨ b = 1 ∨ b = 2 ∨ b = 3 ∨ b = 4 ∨ b = 5 ∨ b = 6 ∨ b = 7 := by omega
 rcases ea with rfl | rfl | rfl | rfl | rfl | rfl | rfl | rfl <;> rcases eb with rfl | rfl | rfl | rfl | rfl | rfl | rfl | rfl <;> decide
end Go.Proofs.YtgphjofccckloaaGreat
namespace Go.Proofs.YtgphjofccckloaaGreat
set_option linter.unusedVariables false
set_option linter.unusedSimpArgs false
open Go
set_option maxRecDepth 20000
set_option linter.unusedSimpArgs false
variable {G : Gh} {L : List Ch} {R : Value → Gh → List Ch → Prop}
theorem toShape_s {l : Shape} (k : R (vT shapeT l) G L) : CallT Tryz.prog 219 #[vT shapeT l] G L R := by
 refine CallT.enter (args := _) Tryz.func219 rfl rfl (by kernel_rfl) rfl ?_
 refine WP.seq (WP.region ?_)
 refine RG.ot rfl (OT.box (cs := shapeT.enc l) rfl rfl rfl fun b1 => ?_)
 refine RG.ot rfl (OT.alloc rfl Zr155 fun b2 => ?_)
 refine RG.nil (WP.seq (WP.region ?_))
 refine RG.ot rfl (OT.alloc rfl Zr155 fun b3 => ?_)
 refine RG.nil (WP.seq (WP.region (RG.pv rfl (PV.field rfl Fo245_0 rfl) (RG.pv rfl (PV.load1 rfl Sc2 rfl (Rd.blk rfl)) (RG.pv rfl (PV.field rfl Fo155_0 rfl) ?_)))))
 refine RG.ot rfl (OT.storeB (vs := [vi _]) (cs' := [_, _, _, _, _]) rfl Sz2 rfl rfl (Cl.c rfl) rfl (OneC.c rfl) rfl rfl ?_)
 refine RG.nil (WP.seq (WP.region (RG.pv rfl (PV.field rfl Fo245_1 rfl) (RG.pv rfl (PV.loadB (vs := [_, _, _, _]) rfl Ag243 rfl rfl rfl) ?_))))
 refine RG.callF (vs := [_]) rfl rfl En256 rfl (toRect_s ?_)
 refine RG.pv rfl (PV.field rfl Fo155_1 rfl) ?_
 refine RG.ot rfl (OT.storeB (vs := [vi _, vi _, vi _, vi _]) (cs' := [_, _, _, _, _]) rfl Sz91 rfl rfl (Cl.c rfl) rfl (OneC.c rfl) rfl rfl ?_)
 refine RG.nil (WP.seq (WP.region (RG.pv rfl (PV.loadW rfl Ag155 rfl rfl) ?_)))
 refine RG.ot rfl (OT.storeW (vs := [vi _, vi _, vi _, vi _, vi _]) rfl Sz155 rfl rfl (Cl.c rfl) rfl rfl (OneC.c rfl) ?_)
 refine RG.nil ?_
 refine WP.ret ?_
 exact ⟨_, _, ResV.one rfl (RV1.cell rfl Ag155 rfl), Cv.p, k⟩
theorem toShapeS_s {v : Value} {xs : List Shape} (h1 : Rs G L shapeT v xs) (hb : xs.length ≤ 1048576) (k : ∀ v', R v' G (osl 155 shapeT v' xs :: L)) : CallT Tryz.prog 145 #[v] G L R := by
 refine CallT.enter (args := _) Tryz.func145 rfl rfl (by kernel_rfl) rfl ?_
 refine WP.seq (WP.region (RG.pv rfl (PV.asg rfl rfl) (RG.nil (WP.seq (WP.region (RG.pv rfl (PV.move (v := v) rfl rfl) (RG.pv rfl (PV.len (v := v) rfl Tryz.underlying120 rfl (SlF.r h1)) ?_)))))))
 refine RG.ot rfl (OT.make (F := shapeT) (a0 := default) rfl El111 rfl (by decide) rfl rfl (by omega) (by omega) fun v7 => ?_)
 refine RG.pv rfl (PV.asg (v := v7) rfl rfl) (RG.nil (WP.seq (WP.seq (WP.region (RG.mr rfl rfl rfl (RG.nil (WP.block ?_)))))))
 refine WP.loop2 [0, 3] (fun i ys => i ≤ xs.length ∧ ys.length = xs.length ∧ ∀ j, j < i → ys[j]? = xs[j]?) (fun i ys => [(4, vi i)]) (fun i ys => osl 155 shapeT v7 ys :: L) (fun i ys => xs.length - i) 0 (List.replicate xs.length default) ⟨by omega, by simp, fun j h => by omega⟩ ⟨rfl, trivial⟩ Cv.p ?_
 rintro i ys τ ⟨hi, hl, he⟩
 refine WP.seq (WP.seq (WP.region (RG.ml rfl rfl rfl (RG.pv rfl (PV.move (v := v) rfl rfl) (RG.pv rfl (PV.len (v := v) rfl Tryz.underlying120 rfl (SlF.r h1)) (RG.pv rfl (PV.lss rfl rfl rfl) (RG.nil ?_)))))))
 refine WP.cond rfl (fun h2 => ?_) (fun h2 => ?_)
 · have h2 := of_decide_eq_true h2
   refine WP.skip (WP.seq (WP.block (WP.region (RG.pv rfl (PV.move (v := v7) rfl rfl) (RG.ml rfl rfl rfl (RG.pv rfl (PV.move (v := v) rfl rfl) (RG.ml rfl rfl rfl ?_)))))))
   refine RG.pv rfl (PV.idxS (v := v) rfl Is120 rfl (SlF.r h1) rfl rfl (by omega)) (RG.pv rfl (PV.loadE rfl Ag245 rfl rfl (El.r h1 (getG (by omega)))) ?_)
   refine RG.callF (vs := [_]) rfl rfl En219 rfl (toShape_s ?_)
   refine RG.pv rfl (PV.idxS (v := v7) rfl Is111 rfl SlF.o rfl rfl (by omega)) ?_
   refine RG.ot rfl (OT.storeE (F := shapeT) rfl Sz155 rfl rfl rfl (Cl.c rfl) (OneC.c rfl) (by omega) ?_)
   refine RG.nil (WP.region (RG.ml rfl rfl rfl (RG.pv rfl (PV.add rfl rfl rfl (by omega)) (RG.mr rfl rfl rfl (RG.nil ?_)))))
   exact ⟨rfl, i + 1, _, ⟨by omega, by simpa using hl, set_pre he (getG (by omega)) hl⟩, ⟨rfl, trivial⟩, ⟨rfl, rfl, trivial⟩, Cv.p, by omega⟩
 · have h2 := of_decide_eq_false h2
   obtain rfl := pre_eq he hl (by omega)
   refine WP.exit ?_
   refine WP.seq (WP.region (RG.pv rfl (PV.move (v := v7) rfl rfl) (RG.pv rfl (PV.asg (v := v7) rfl rfl) (RG.nil ?_))))
   refine WP.ret ?_
   exact ⟨_, _, ResV.one rfl rfl, Cv.p, k v7⟩
theorem szShapeS_s {v : Value} {xs : List Shape} {n : Int} (h1 : Rs G L shapeT v xs) (hn : n ≤ 1048576) (h0 : 0 ≤ n) (k : ∀ r : Int, r ≤ n → (0 ≤ r → r = n - xs.length) → R (vi r) G L) : CallT Tryz.prog 134 #[v, vi n] G L R := by
 refine CallT.bd h1 fun hb => ?_
 refine CallT.enter (args := _) Tryz.func134 rfl rfl (by kernel_rfl) rfl ?_
 refine WP.seq (WP.region (RG.mr rfl rfl rfl (RG.nil (WP.seq (WP.region (RG.ml rfl rfl rfl (RG.pv rfl (PV.move (v := v) rfl rfl) ?_)))))))
 refine RG.pv rfl (PV.len (v := v) rfl Tryz.underlying120 rfl (SlF.r h1)) (RG.pv rfl (PV.sub rfl rfl rfl (by omega)) (RG.mr rfl rfl rfl (RG.nil (WP.seq (WP.seq (WP.region (RG.ml rfl rfl rfl ?_)))))))
 refine RG.pv rfl (PV.lss rfl rfl rfl) (RG.nil ?_)
 refine WP.cond rfl (fun h2 => ?_) (fun h2 => ?_)
 · refine WP.seq ?_
   refine WP.region (RG.mr rfl rfl rfl (RG.nil ?_))
   refine WP.ret ?_
   exact ⟨_, _, ResV.one rfl rfl, Cv.p, k _ (by omega) (fun h => by omega)⟩
 · refine WP.skip ?_
   refine WP.seq (WP.region (RG.ml rfl rfl rfl (RG.mr rfl rfl rfl (RG.nil ?_))))
   refine WP.ret ?_
   exact ⟨_, _, ResV.one rfl rfl, Cv.p, k _ (by omega) (fun h => by omega)⟩
theorem toTrans_s {l : Trans} (k : R (vT transT l) G L) : CallT Tryz.prog 258 #[vT transT l] G L R := by
 refine CallT.enter (args := _) Tryz.func258 rfl rfl (by kernel_rfl) rfl ?_
 refine WP.seq (WP.region ?_)
 refine RG.ot rfl (OT.box (cs := transT.enc l) rfl rfl rfl fun b1 => ?_)
 refine RG.ot rfl (OT.alloc rfl Zr95 fun b2 => ?_)
 refine RG.nil (WP.seq (WP.region ?_))
 refine RG.ot rfl (OT.alloc rfl Zr95 fun b3 => ?_)
 refine RG.nil (WP.seq (WP.region (RG.pv rfl (PV.field rfl Fo248_0 rfl) (RG.pv rfl (PV.load1 rfl Sc2 rfl (Rd.blk rfl)) (RG.pv rfl (PV.field rfl Fo95_0 rfl) ?_)))))
 refine RG.ot rfl (OT.storeB (vs := [vi _]) (cs' := [_, _, _]) rfl Sz2 rfl rfl (Cl.c rfl) rfl (OneC.c rfl) rfl rfl ?_)
 refine RG.nil (WP.seq (WP.region (RG.pv rfl (PV.field rfl Fo248_1 rfl) (RG.pv rfl (PV.load1 rfl Sc2 rfl (Rd.blk rfl)) (RG.pv rfl (PV.field rfl Fo95_1 rfl) ?_)))))
 refine RG.ot rfl (OT.storeB (vs := [vi _]) (cs' := [_, _, _]) rfl Sz2 rfl rfl (Cl.c rfl) rfl (OneC.c rfl) rfl rfl ?_)
 refine RG.nil (WP.seq (WP.region (RG.pv rfl (PV.field rfl Fo248_2 rfl) (RG.pv rfl (PV.load1 rfl Sc2 rfl (Rd.blk rfl)) (RG.pv rfl (PV.field rfl Fo95_2 rfl) ?_)))))
 refine RG.ot rfl (OT.storeB (vs := [vi _]) (cs' := [_, _, _]) rfl Sz2 rfl rfl (Cl.c rfl) rfl (OneC.c rfl) rfl rfl ?_)
 refine RG.nil (WP.seq (WP.region (RG.pv rfl (PV.loadW rfl Ag95 rfl rfl) ?_)))
 refine RG.ot rfl (OT.storeW (vs := [vi _, vi _, vi _]) rfl Sz95 rfl rfl (Cl.c rfl) rfl rfl (OneC.c rfl) ?_)
 refine RG.nil ?_
 refine WP.ret ?_
 exact ⟨_, _, ResV.one rfl (RV1.cell rfl Ag95 rfl), Cv.p, k⟩
theorem toInst_s {l : Inst} (k : R (vT instT l) G L) : CallT Tryz.prog 221 #[vT instT l] G L R := by
 refine CallT.enter (args := _) Tryz.func221 rfl rfl (by kernel_rfl) rfl ?_
 refine WP.seq (WP.region ?_)
 refine RG.ot rfl (OT.box (cs := instT.enc l) rfl rfl rfl fun b1 => ?_)
 refine RG.ot rfl (OT.alloc rfl Zr173 fun b2 => ?_)
 refine RG.nil (WP.seq (WP.region ?_))
 refine RG.ot rfl (OT.alloc rfl Zr173 fun b3 => ?_)
 refine RG.nil (WP.seq (WP.region (RG.pv rfl (PV.field rfl Fo250_0 rfl) (RG.pv rfl (PV.load1 rfl Sc2 rfl (Rd.blk rfl)) (RG.pv rfl (PV.field rfl Fo173_0 rfl) ?_)))))
 refine RG.ot rfl (OT.storeB (vs := [vi _]) (cs' := [_, _, _, _, _, _, _, _]) rfl Sz2 rfl rfl (Cl.c rfl) rfl (OneC.c rfl) rfl rfl ?_)
 refine RG.nil (WP.seq (WP.region (RG.pv rfl (PV.field rfl Fo250_1 rfl) (RG.pv rfl (PV.loadB (vs := [_, _, _]) rfl Ag248 rfl rfl rfl) ?_))))
 refine RG.callF (vs := [_]) rfl rfl En258 rfl (toTrans_s ?_)
 refine RG.pv rfl (PV.field rfl Fo173_1 rfl) ?_
 refine RG.ot rfl (OT.storeB (vs := [vi _, vi _, vi _]) (cs' := [_, _, _, _, _, _, _, _]) rfl Sz95 rfl rfl (Cl.c rfl) rfl (OneC.c rfl) rfl rfl ?_)
 refine RG.nil (WP.seq (WP.region (RG.pv rfl (PV.field rfl Fo250_2 rfl) (RG.pv rfl (PV.load1 rfl Sc2 rfl (Rd.blk rfl)) (RG.pv rfl (PV.field rfl Fo173_2 rfl) ?_)))))
 refine RG.ot rfl (OT.storeB (vs := [vi _]) (cs' := [_, _, _, _, _, _, _, _]) rfl Sz2 rfl rfl (Cl.c rfl) rfl (OneC.c rfl) rfl rfl ?_)
 refine RG.nil (WP.seq (WP.region (RG.pv rfl (PV.field rfl Fo250_3 rfl) (RG.pv rfl (PV.load1 rfl Sc2 rfl (Rd.blk rfl)) (RG.pv rfl (PV.field rfl Fo173_3 rfl) ?_)))))
 refine RG.ot rfl (OT.storeB (vs := [vi _]) (cs' := [_, _, _, _, _, _, _, _]) rfl Sz2 rfl rfl (Cl.c rfl) rfl (OneC.c rfl) rfl rfl ?_)
 refine RG.nil (WP.seq (WP.region (RG.pv rfl (PV.field rfl Fo250_4 rfl) (RG.pv rfl (PV.load1 rfl Sc2 rfl (Rd.blk rfl)) (RG.pv rfl (PV.field rfl Fo173_4 rfl) ?_)))))
 refine RG.ot rfl (OT.storeB (vs := [vi _]) (cs' := [_, _, _, _, _, _, _, _]) rfl Sz2 rfl rfl (Cl.c rfl) rfl (OneC.c rfl) rfl rfl ?_)
 refine RG.nil (WP.seq (WP.region (RG.pv rfl (PV.field rfl Fo250_5 rfl) (RG.pv rfl (PV.load1 rfl Sc2 rfl (Rd.blk rfl)) (RG.pv rfl (PV.field rfl Fo173_5 rfl) ?_)))))
 refine RG.ot rfl (OT.storeB (vs := [vi _]) (cs' := [_, _, _, _, _, _, _, _]) rfl Sz2 rfl rfl (Cl.c rfl) rfl (OneC.c rfl) rfl rfl ?_)
 refine RG.nil (WP.seq (WP.region (RG.pv rfl (PV.loadW rfl Ag173 rfl rfl) ?_)))
 refine RG.ot rfl (OT.storeW (vs := [vi _, vi _, vi _, vi _, vi _, vi _, vi _, vi _]) rfl Sz173 rfl rfl (Cl.c rfl) rfl rfl (OneC.c rfl) ?_)
 refine RG.nil ?_
 refine WP.ret ?_
 exact ⟨_, _, ResV.one rfl (RV1.cell rfl Ag173 rfl), Cv.p, k⟩
theorem eqShape_s {a b : Shape} (k : R (.bool (decide (a = b))) G L) : CallT Tryz.prog 228 #[vT shapeT a, vT shapeT b] G L R := by
 refine CallT.enter (args := _) Tryz.func228 rfl rfl (by kernel_rfl) rfl ?_
 refine WP.seq (WP.region ?_)
 refine RG.ot rfl (OT.box (cs := shapeT.enc a) rfl rfl rfl fun b2 => ?_)
 refine RG.ot rfl (OT.box (cs := shapeT.enc b) rfl rfl rfl fun b3 => ?_)
 refine RG.br rfl rfl rfl (RG.nil (WP.seq (WP.seq (WP.region (RG.pv rfl (PV.field rfl Fo155_0 rfl) (RG.pv rfl (PV.load1 rfl Sc2 rfl (Rd.blk rfl)) (RG.pv rfl (PV.field rfl Fo155_0 rfl) ?_)))))))
 refine RG.pv rfl (PV.load1 rfl Sc2 rfl (Rd.blk rfl)) (RG.pv rfl (PV.neq rfl rfl rfl) (RG.nil ?_))
 refine WP.cond rfl (fun h1 => ?_) (fun h1 => ?_)
 · have e : decide (a = b) = false := by rw [decide_eq_false_iff_not]; rintro rfl; simp at h1
   rw [e] at k
   refine WP.seq (WP.region (RG.br rfl rfl rfl (RG.nil ?_)))
   refine WP.ret ?_
   exact ⟨_, _, ResV.one rfl rfl, Cv.p, k⟩
 · refine WP.skip ?_
   refine WP.seq (WP.seq (WP.region (RG.pv rfl (PV.field rfl Fo155_1 rfl) (RG.pv rfl (PV.loadB (vs := [_, _, _, _]) rfl Ag91 rfl rfl rfl) (RG.pv rfl (PV.field rfl Fo155_1 rfl) (RG.pv rfl (PV.loadB (vs := [_, _, _, _]) rfl Ag91 rfl rfl rfl) ?_))))))
   refine RG.callF (vs := [_, _]) rfl rfl En56 rfl (eqRect_s ?_)
   refine RG.pv rfl (PV.not rfl rfl) (RG.nil ?_)
   refine WP.cond rfl (fun h2 => ?_) (fun h2 => ?_)
   · have e : decide (a = b) = false := by rw [decide_eq_false_iff_not]; rintro rfl; simp at h2
     rw [e] at k
     refine WP.seq (WP.region (RG.br rfl rfl rfl (RG.nil ?_)))
     refine WP.ret ?_
     exact ⟨_, _, ResV.one rfl rfl, Cv.p, k⟩
   · have e : decide (a = b) = true := by
       obtain ⟨a1, a2⟩ := a; obtain ⟨b1, b2⟩ := b
       simp at h1 h2 ⊢; exact ⟨h1, h2⟩
     rw [e] at k
     refine WP.skip (WP.seq (WP.region (RG.br rfl rfl rfl (RG.nil ?_))))
     refine WP.ret ?_
     exact ⟨_, _, ResV.one rfl rfl, Cv.p, k⟩
theorem eqShapeS_s {v u : Value} {xs ys : List Shape} (h1 : Rs G L shapeT v xs) (h2 : Rs G L shapeT u ys) (k : R (.bool (decide (xs = ys))) G L) : CallT Tryz.prog 164 #[v, u] G L R := by
 refine CallT.bd h1 fun hb => ?_
 refine CallT.bd h2 fun hb' => ?_
 refine CallT.enter (args := _) Tryz.func164 rfl rfl (by kernel_rfl) rfl ?_
 refine WP.seq (WP.region (RG.br rfl rfl rfl (RG.nil (WP.seq (WP.seq (WP.region (RG.pv rfl (PV.move (v := v) rfl rfl) ?_)))))))
 refine RG.pv rfl (PV.len (v := v) rfl Tryz.underlying111 rfl (SlF.r h1)) (RG.pv rfl (PV.move (v := u) rfl rfl) (RG.pv rfl (PV.len (v := u) rfl Tryz.underlying111 rfl (SlF.r h2)) (RG.pv rfl (PV.neq rfl rfl rfl) (RG.nil ?_))))
 refine WP.cond rfl (fun h3 => ?_) (fun h3 => ?_)
 · have e : decide (xs = ys) = false := by
     rw [decide_eq_false_iff_not]; rintro rfl; simp at h3
   rw [e] at k
   refine WP.seq (WP.region (RG.br rfl rfl rfl (RG.nil ?_)))
   refine WP.ret ?_
   exact ⟨_, _, ResV.one rfl rfl, Cv.p, k⟩
 · have hl : xs.length = ys.length := by simp at h3; omega
   refine WP.skip (WP.seq (WP.seq (WP.region (RG.mr rfl rfl rfl (RG.nil (WP.block ?_))))))
   refine WP.loop1 [0, 1] (fun i => i ≤ xs.length ∧ ∀ j, j < i → xs[j]? = ys[j]?) (fun i => [(5, vi i)]) (fun i => L) (fun i => xs.length - i) 0 ⟨by omega, fun j h => by omega⟩ ⟨rfl, trivial⟩ Cv.p ?_
   rintro i τ ⟨hi, he⟩
   refine WP.seq (WP.seq (WP.region (RG.ml rfl rfl rfl (RG.pv rfl (PV.move (v := v) rfl rfl) (RG.pv rfl (PV.len (v := v) rfl Tryz.underlying111 rfl (SlF.r h1)) (RG.pv rfl (PV.lss rfl rfl rfl) (RG.nil ?_)))))))
   refine WP.cond rfl (fun h4 => ?_) (fun h4 => ?_)
   · have h4 := of_decide_eq_true h4
     have h5 : i < xs.length := by omega
     refine WP.skip (WP.seq (WP.block (WP.seq ?_)))
     refine WP.regionQ (by kernel_rfl) (by kernel_rfl) ?_
     refine RQ.pv rfl (PV.move (v := v) rfl rfl) ?_
     refine RQ.pv rfl (PV.mvI (.inl rfl) rfl) ?_
     refine RQ.pv rfl (PV.idxS (v := v) rfl Is111 rfl (SlF.r h1) rfl rfl (by omega)) ?_
     refine RQ.pv rfl (PV.loadE rfl Ag155 rfl rfl (El.r h1 (getG (by omega)))) ?_
     refine RQ.pv rfl (PV.move (v := u) rfl rfl) ?_
     refine RQ.pv rfl (PV.mvI (.inl rfl) rfl) ?_
     refine RQ.pv rfl (PV.idxS (v := u) rfl Is111 rfl (SlF.r h2) rfl rfl (by omega)) ?_
     refine RQ.pv rfl (PV.loadE rfl Ag155 rfl rfl (El.r h2 (getG (by omega)))) ?_
     refine RQ.callF (vs := [_, _]) rfl rfl En228 rfl (eqShape_s ⟨rfl, rfl, rfl⟩) ?_
     refine RQ.pv rfl (PV.not rfl rfl) ?_
     refine RQ.nil ?_
     refine WP.cond rfl (fun h6 => ?_) (fun h6 => ?_)
     · have e : decide (xs = ys) = false := by
         rw [decide_eq_false_iff_not]; rintro rfl; simp at h6
       rw [e] at k
       refine WP.seq (WP.region (RG.br rfl rfl rfl (RG.nil ?_)))
       refine WP.ret ?_
       exact ⟨_, _, ResV.one rfl rfl, Cv.p, k⟩
     · have e : gd xs i = gd ys i := by simpa using h6
       have he' : ∀ j, j < i + 1 → xs[j]? = ys[j]? := fun j h => by
         by_cases c : j = i
         · rw [c, getG h5, getG (show i < ys.length by omega), e]
         · exact he j (by omega)
       refine WP.skip (WP.region (RG.ml rfl rfl rfl (RG.pv rfl (PV.add rfl rfl rfl (by omega)) (RG.mr rfl rfl rfl (RG.nil ?_)))))
       exact ⟨rfl, i + 1, ⟨by omega, he'⟩, ⟨rfl, trivial⟩, ⟨rfl, rfl, trivial⟩, Cv.p, by omega⟩
   · have h4 := of_decide_eq_false h4
     have e : decide (xs = ys) = true := by
       rw [decide_eq_true_iff]; exact pre_eq he hl (by omega)
     rw [e] at k
     refine WP.exit ?_
     refine WP.seq (WP.region (RG.br rfl rfl rfl (RG.nil ?_)))
     refine WP.ret ?_
     exact ⟨_, _, ResV.one rfl rfl, Cv.p, k⟩
theorem eqTrans_s {a b : Trans} (k : R (.bool (decide (a = b))) G L) : CallT Tryz.prog 264 #[vT transT a, vT transT b] G L R := by
 refine CallT.enter (args := _) Tryz.func264 rfl rfl (by kernel_rfl) rfl ?_
 refine WP.seq (WP.region ?_)
 refine RG.ot rfl (OT.box (cs := transT.enc a) rfl rfl rfl fun b2 => ?_)
 refine RG.ot rfl (OT.box (cs := transT.enc b) rfl rfl rfl fun b3 => ?_)
 refine RG.br rfl rfl rfl (RG.nil (WP.seq (WP.seq (WP.region (RG.pv rfl (PV.field rfl Fo95_0 rfl) (RG.pv rfl (PV.load1 rfl Sc2 rfl (Rd.blk rfl)) (RG.pv rfl (PV.field rfl Fo95_0 rfl) ?_)))))))
 refine RG.pv rfl (PV.load1 rfl Sc2 rfl (Rd.blk rfl)) (RG.pv rfl (PV.neq rfl rfl rfl) (RG.nil ?_))
 refine WP.cond rfl (fun h1 => ?_) (fun h1 => ?_)
 · have e : decide (a = b) = false := by rw [decide_eq_false_iff_not]; rintro rfl; simp at h1
   rw [e] at k
   refine WP.seq (WP.region (RG.br rfl rfl rfl (RG.nil ?_)))
   refine WP.ret ?_
   exact ⟨_, _, ResV.one rfl rfl, Cv.p, k⟩
 · refine WP.skip ?_
   refine WP.seq (WP.seq (WP.region (RG.pv rfl (PV.field rfl Fo95_1 rfl) (RG.pv rfl (PV.load1 rfl Sc2 rfl (Rd.blk rfl)) (RG.pv rfl (PV.field rfl Fo95_1 rfl) (RG.pv rfl (PV.load1 rfl Sc2 rfl (Rd.blk rfl)) (RG.pv rfl (PV.neq rfl rfl rfl) ?_)))))))
   refine RG.nil ?_
   refine WP.cond rfl (fun h2 => ?_) (fun h2 => ?_)
   · have e : decide (a = b) = false := by rw [decide_eq_false_iff_not]; rintro rfl; simp at h2
     rw [e] at k
     refine WP.seq (WP.region (RG.br rfl rfl rfl (RG.nil ?_)))
     refine WP.ret ?_
     exact ⟨_, _, ResV.one rfl rfl, Cv.p, k⟩
   · refine WP.skip ?_
     refine WP.seq (WP.seq (WP.region (RG.pv rfl (PV.field rfl Fo95_2 rfl) (RG.pv rfl (PV.load1 rfl Sc2 rfl (Rd.blk rfl)) (RG.pv rfl (PV.field rfl Fo95_2 rfl) (RG.pv rfl (PV.load1 rfl Sc2 rfl (Rd.blk rfl)) (RG.pv rfl (PV.neq rfl rfl rfl) ?_)))))))
     refine RG.nil ?_
     refine WP.cond rfl (fun h3 => ?_) (fun h3 => ?_)
     · have e : decide (a = b) = false := by rw [decide_eq_false_iff_not]; rintro rfl; simp at h3
       rw [e] at k
       refine WP.seq (WP.region (RG.br rfl rfl rfl (RG.nil ?_)))
       refine WP.ret ?_
       exact ⟨_, _, ResV.one rfl rfl, Cv.p, k⟩
     · have e : decide (a = b) = true := by
         obtain ⟨a1, a2, a3⟩ := a; obtain ⟨b1, b2, b3⟩ := b
         simp at h1 h2 h3 ⊢; exact ⟨h1, h2, h3⟩
       rw [e] at k
       refine WP.skip (WP.seq (WP.region (RG.br rfl rfl rfl (RG.nil ?_))))
       refine WP.ret ?_
       exact ⟨_, _, ResV.one rfl rfl, Cv.p, k⟩
theorem eqInst_s {a b : Inst} (k : R (.bool (decide (a = b))) G L) : CallT Tryz.prog 230 #[vT instT a, vT instT b] G L R := by
 refine CallT.enter (args := _) Tryz.func230 rfl rfl (by kernel_rfl) rfl ?_
 refine WP.seq (WP.region ?_)
 refine RG.ot rfl (OT.box (cs := instT.enc a) rfl rfl rfl fun b2 => ?_)
 refine RG.ot rfl (OT.box (cs := instT.enc b) rfl rfl rfl fun b3 => ?_)
 refine RG.br rfl rfl rfl (RG.nil (WP.seq (WP.seq (WP.region (RG.pv rfl (PV.field rfl Fo173_0 rfl) (RG.pv rfl (PV.load1 rfl Sc2 rfl (Rd.blk rfl)) (RG.pv rfl (PV.field rfl Fo173_0 rfl) ?_)))))))
 refine RG.pv rfl (PV.load1 rfl Sc2 rfl (Rd.blk rfl)) (RG.pv rfl (PV.neq rfl rfl rfl) (RG.nil ?_))
 refine WP.cond rfl (fun h1 => ?_) (fun h1 => ?_)
 · have e : decide (a = b) = false := by rw [decide_eq_false_iff_not]; rintro rfl; simp at h1
   rw [e] at k
   refine WP.seq (WP.region (RG.br rfl rfl rfl (RG.nil ?_)))
   refine WP.ret ?_
   exact ⟨_, _, ResV.one rfl rfl, Cv.p, k⟩
 · refine WP.skip ?_
   refine WP.seq (WP.seq (WP.region (RG.pv rfl (PV.field rfl Fo173_1 rfl) (RG.pv rfl (PV.loadB (vs := [_, _, _]) rfl Ag95 rfl rfl rfl) (RG.pv rfl (PV.field rfl Fo173_1 rfl) (RG.pv rfl (PV.loadB (vs := [_, _, _]) rfl Ag95 rfl rfl rfl) ?_))))))
   refine RG.callF (vs := [_, _]) rfl rfl En264 rfl (eqTrans_s ?_)
   refine RG.pv rfl (PV.not rfl rfl) (RG.nil ?_)
   refine WP.cond rfl (fun h2 => ?_) (fun h2 => ?_)
   · have e : decide (a = b) = false := by rw [decide_eq_false_iff_not]; rintro rfl; simp at h2
     rw [e] at k
     refine WP.seq (WP.region (RG.br rfl rfl rfl (RG.nil ?_)))
     refine WP.ret ?_
     exact ⟨_, _, ResV.one rfl rfl, Cv.p, k⟩
   · refine WP.skip ?_
     refine WP.seq (WP.seq (WP.region (RG.pv rfl (PV.field rfl Fo173_2 rfl) (RG.pv rfl (PV.load1 rfl Sc2 rfl (Rd.blk rfl)) (RG.pv rfl (PV.field rfl Fo173_2 rfl) (RG.pv rfl (PV.load1 rfl Sc2 rfl (Rd.blk rfl)) (RG.pv rfl (PV.neq rfl rfl rfl) ?_)))))))
     refine RG.nil ?_
     refine WP.cond rfl (fun h3 => ?_) (fun h3 => ?_)
     · have e : decide (a = b) = false := by rw [decide_eq_false_iff_not]; rintro rfl; simp at h3
       rw [e] at k
       refine WP.seq (WP.region (RG.br rfl rfl rfl (RG.nil ?_)))
       refine WP.ret ?_
       exact ⟨_, _, ResV.one rfl rfl, Cv.p, k⟩
     · refine WP.skip ?_
       refine WP.seq (WP.seq (WP.region (RG.pv rfl (PV.field rfl Fo173_3 rfl) (RG.pv rfl (PV.load1 rfl Sc2 rfl (Rd.blk rfl)) (RG.pv rfl (PV.field rfl Fo173_3 rfl) (RG.pv rfl (PV.load1 rfl Sc2 rfl (Rd.blk rfl)) (RG.pv rfl (PV.neq rfl rfl rfl) ?_)))))))
       refine RG.nil ?_
       refine WP.cond rfl (fun h4 => ?_) (fun h4 => ?_)
       · have e : decide (a = b) = false := by rw [decide_eq_false_iff_not]; rintro rfl; simp at h4
         rw [e] at k
         refine WP.seq (WP.region (RG.br rfl rfl rfl (RG.nil ?_)))
         refine WP.ret ?_
         exact ⟨_, _, ResV.one rfl rfl, Cv.p, k⟩
       · refine WP.skip ?_
         refine WP.seq (WP.seq (WP.region (RG.pv rfl (PV.field rfl Fo173_4 rfl) (RG.pv rfl (PV.load1 rfl Sc2 rfl (Rd.blk rfl)) (RG.pv rfl (PV.field rfl Fo173_4 rfl) (RG.pv rfl (PV.load1 rfl Sc2 rfl (Rd.blk rfl)) (RG.pv rfl (PV.neq rfl rfl rfl) ?_)))))))
         refine RG.nil ?_
         refine WP.cond rfl (fun h5 => ?_) (fun h5 => ?_)
         · have e : decide (a = b) = false := by rw [decide_eq_false_iff_not]; rintro rfl; simp at h5
           rw [e] at k
           refine WP.seq (WP.region (RG.br rfl rfl rfl (RG.nil ?_)))
           refine WP.ret ?_
           exact ⟨_, _, ResV.one rfl rfl, Cv.p, k⟩
         · refine WP.skip ?_
           refine WP.seq (WP.seq (WP.region (RG.pv rfl (PV.field rfl Fo173_5 rfl) (RG.pv rfl (PV.load1 rfl Sc2 rfl (Rd.blk rfl)) (RG.pv rfl (PV.field rfl Fo173_5 rfl) (RG.pv rfl (PV.load1 rfl Sc2 rfl (Rd.blk rfl)) (RG.pv rfl (PV.neq rfl rfl rfl) ?_)))))))
           refine RG.nil ?_
           refine WP.cond rfl (fun h6 => ?_) (fun h6 => ?_)
           · have e : decide (a = b) = false := by rw [decide_eq_false_iff_not]; rintro rfl; simp at h6
             rw [e] at k
             refine WP.seq (WP.region (RG.br rfl rfl rfl (RG.nil ?_)))
             refine WP.ret ?_
             exact ⟨_, _, ResV.one rfl rfl, Cv.p, k⟩
           · have e : decide (a = b) = true := by
               obtain ⟨a1, a2, a3, a4, a5, a6⟩ := a; obtain ⟨b1, b2, b3, b4, b5, b6⟩ := b
               simp at h1 h2 h3 h4 h5 h6 ⊢; exact ⟨h1, h2, h3, h4, h5, h6⟩
             rw [e] at k
             refine WP.skip (WP.seq (WP.region (RG.br rfl rfl rfl (RG.nil ?_))))
             refine WP.ret ?_
             exact ⟨_, _, ResV.one rfl rfl, Cv.p, k⟩
theorem toInstS_s {v : Value} {xs : List Inst} (h1 : Rs G L instT v xs) (hb : xs.length ≤ 1048576) (k : ∀ v', R v' G (osl 173 instT v' xs :: L)) : CallT Tryz.prog 147 #[v] G L R := by
 refine CallT.enter (args := _) Tryz.func147 rfl rfl (by kernel_rfl) rfl ?_
 refine WP.seq (WP.region (RG.pv rfl (PV.asg rfl rfl) (RG.nil (WP.seq (WP.region (RG.pv rfl (PV.move (v := v) rfl rfl) (RG.pv rfl (PV.len (v := v) rfl Tryz.underlying122 rfl (SlF.r h1)) ?_)))))))
 refine RG.ot rfl (OT.make (F := instT) (a0 := default) rfl El113 rfl (by decide) rfl rfl (by omega) (by omega) fun v7 => ?_)
 refine RG.pv rfl (PV.asg (v := v7) rfl rfl) (RG.nil (WP.seq (WP.seq (WP.region (RG.mr rfl rfl rfl (RG.nil (WP.block ?_)))))))
 refine WP.loop2 [0, 3] (fun i ys => i ≤ xs.length ∧ ys.length = xs.length ∧ ∀ j, j < i → ys[j]? = xs[j]?) (fun i ys => [(4, vi i)]) (fun i ys => osl 173 instT v7 ys :: L) (fun i ys => xs.length - i) 0 (List.replicate xs.length default) ⟨by omega, by simp, fun j h => by omega⟩ ⟨rfl, trivial⟩ Cv.p ?_
 rintro i ys τ ⟨hi, hl, he⟩
 refine WP.seq (WP.seq (WP.region (RG.ml rfl rfl rfl (RG.pv rfl (PV.move (v := v) rfl rfl) (RG.pv rfl (PV.len (v := v) rfl Tryz.underlying122 rfl (SlF.r h1)) (RG.pv rfl (PV.lss rfl rfl rfl) (RG.nil ?_)))))))
 refine WP.cond rfl (fun h2 => ?_) (fun h2 => ?_)
 · have h2 := of_decide_eq_true h2
   refine WP.skip (WP.seq (WP.block (WP.region (RG.pv rfl (PV.move (v := v7) rfl rfl) (RG.ml rfl rfl rfl (RG.pv rfl (PV.move (v := v) rfl rfl) (RG.ml rfl rfl rfl ?_)))))))
   refine RG.pv rfl (PV.idxS (v := v) rfl Is122 rfl (SlF.r h1) rfl rfl (by omega)) (RG.pv rfl (PV.loadE rfl Ag250 rfl rfl (El.r h1 (getG (by omega)))) ?_)
   refine RG.callF (vs := [_]) rfl rfl En221 rfl (toInst_s ?_)
   refine RG.pv rfl (PV.idxS (v := v7) rfl Is113 rfl SlF.o rfl rfl (by omega)) ?_
   refine RG.ot rfl (OT.storeE (F := instT) rfl Sz173 rfl rfl rfl (Cl.c rfl) (OneC.c rfl) (by omega) ?_)
   refine RG.nil (WP.region (RG.ml rfl rfl rfl (RG.pv rfl (PV.add rfl rfl rfl (by omega)) (RG.mr rfl rfl rfl (RG.nil ?_)))))
   exact ⟨rfl, i + 1, _, ⟨by omega, by simpa using hl, set_pre he (getG (by omega)) hl⟩, ⟨rfl, trivial⟩, ⟨rfl, rfl, trivial⟩, Cv.p, by omega⟩
 · have h2 := of_decide_eq_false h2
   obtain rfl := pre_eq he hl (by omega)
   refine WP.exit ?_
   refine WP.seq (WP.region (RG.pv rfl (PV.move (v := v7) rfl rfl) (RG.pv rfl (PV.asg (v := v7) rfl rfl) (RG.nil ?_))))
   refine WP.ret ?_
   exact ⟨_, _, ResV.one rfl rfl, Cv.p, k v7⟩
theorem szInstanceS_s {v : Value} {xs : List Inst} {n : Int} (h1 : Rs G L instT v xs) (hn : n ≤ 1048576) (h0 : 0 ≤ n) (k : ∀ r : Int, r ≤ n → (0 ≤ r → r = n - xs.length) → R (vi r) G L) : CallT Tryz.prog 136 #[v, vi n] G L R := by
 refine CallT.bd h1 fun hb => ?_
 refine CallT.enter (args := _) Tryz.func136 rfl rfl (by kernel_rfl) rfl ?_
 refine WP.seq (WP.region (RG.mr rfl rfl rfl (RG.nil (WP.seq (WP.region (RG.ml rfl rfl rfl (RG.pv rfl (PV.move (v := v) rfl rfl) ?_)))))))
 refine RG.pv rfl (PV.len (v := v) rfl Tryz.underlying122 rfl (SlF.r h1)) (RG.pv rfl (PV.sub rfl rfl rfl (by omega)) (RG.mr rfl rfl rfl (RG.nil (WP.seq (WP.seq (WP.region (RG.ml rfl rfl rfl ?_)))))))
 refine RG.pv rfl (PV.lss rfl rfl rfl) (RG.nil ?_)
 refine WP.cond rfl (fun h2 => ?_) (fun h2 => ?_)
 · refine WP.seq ?_
   refine WP.region (RG.mr rfl rfl rfl (RG.nil ?_))
   refine WP.ret ?_
   exact ⟨_, _, ResV.one rfl rfl, Cv.p, k _ (by omega) (fun h => by omega)⟩
 · refine WP.skip ?_
   refine WP.seq (WP.region (RG.ml rfl rfl rfl (RG.mr rfl rfl rfl (RG.nil ?_))))
   refine WP.ret ?_
   exact ⟨_, _, ResV.one rfl rfl, Cv.p, k _ (by omega) (fun h => by omega)⟩
theorem eqInstS_s {v u : Value} {xs ys : List Inst} (h1 : Rs G L instT v xs) (h2 : Rs G L instT u ys) (k : R (.bool (decide (xs = ys))) G L) : CallT Tryz.prog 166 #[v, u] G L R := by
 refine CallT.bd h1 fun hb => ?_
 refine CallT.bd h2 fun hb' => ?_
 refine CallT.enter (args := _) Tryz.func166 rfl rfl (by kernel_rfl) rfl ?_
 refine WP.seq (WP.region (RG.br rfl rfl rfl (RG.nil (WP.seq (WP.seq (WP.region (RG.pv rfl (PV.move (v := v) rfl rfl) ?_)))))))
 refine RG.pv rfl (PV.len (v := v) rfl Tryz.underlying113 rfl (SlF.r h1)) (RG.pv rfl (PV.move (v := u) rfl rfl) (RG.pv rfl (PV.len (v := u) rfl Tryz.underlying113 rfl (SlF.r h2)) (RG.pv rfl (PV.neq rfl rfl rfl) (RG.nil ?_))))
 refine WP.cond rfl (fun h3 => ?_) (fun h3 => ?_)
 · have e : decide (xs = ys) = false := by
     rw [decide_eq_false_iff_not]; rintro rfl; simp at h3
   rw [e] at k
   refine WP.seq (WP.region (RG.br rfl rfl rfl (RG.nil ?_)))
   refine WP.ret ?_
   exact ⟨_, _, ResV.one rfl rfl, Cv.p, k⟩
 · have hl : xs.length = ys.length := by simp at h3; omega
   refine WP.skip (WP.seq (WP.seq (WP.region (RG.mr rfl rfl rfl (RG.nil (WP.block ?_))))))
   refine WP.loop1 [0, 1] (fun i => i ≤ xs.length ∧ ∀ j, j < i → xs[j]? = ys[j]?) (fun i => [(5, vi i)]) (fun i => L) (fun i => xs.length - i) 0 ⟨by omega, fun j h => by omega⟩ ⟨rfl, trivial⟩ Cv.p ?_
   rintro i τ ⟨hi, he⟩
   refine WP.seq (WP.seq (WP.region (RG.ml rfl rfl rfl (RG.pv rfl (PV.move (v := v) rfl rfl) (RG.pv rfl (PV.len (v := v) rfl Tryz.underlying113 rfl (SlF.r h1)) (RG.pv rfl (PV.lss rfl rfl rfl) (RG.nil ?_)))))))
   refine WP.cond rfl (fun h4 => ?_) (fun h4 => ?_)
   · have h4 := of_decide_eq_true h4
     have h5 : i < xs.length := by omega
     refine WP.skip (WP.seq (WP.block (WP.seq ?_)))
     refine WP.regionQ (by kernel_rfl) (by kernel_rfl) ?_
     refine RQ.pv rfl (PV.move (v := v) rfl rfl) ?_
     refine RQ.pv rfl (PV.mvI (.inl rfl) rfl) ?_
     refine RQ.pv rfl (PV.idxS (v := v) rfl Is113 rfl (SlF.r h1) rfl rfl (by omega)) ?_
     refine RQ.pv rfl (PV.loadE rfl Ag173 rfl rfl (El.r h1 (getG (by omega)))) ?_
     refine RQ.pv rfl (PV.move (v := u) rfl rfl) ?_
     refine RQ.pv rfl (PV.mvI (.inl rfl) rfl) ?_
     refine RQ.pv rfl (PV.idxS (v := u) rfl Is113 rfl (SlF.r h2) rfl rfl (by omega)) ?_
     refine RQ.pv rfl (PV.loadE rfl Ag173 rfl rfl (El.r h2 (getG (by omega)))) ?_
     refine RQ.callF (vs := [_, _]) rfl rfl En230 rfl (eqInst_s ⟨rfl, rfl, rfl⟩) ?_
     refine RQ.pv rfl (PV.not rfl rfl) ?_
     refine RQ.nil ?_
     refine WP.cond rfl (fun h6 => ?_) (fun h6 => ?_)
     · have e : decide (xs = ys) = false := by
         rw [decide_eq_false_iff_not]; rintro rfl; simp at h6
       rw [e] at k
       refine WP.seq (WP.region (RG.br rfl rfl rfl (RG.nil ?_)))
       refine WP.ret ?_
       exact ⟨_, _, ResV.one rfl rfl, Cv.p, k⟩
     · have e : gd xs i = gd ys i := by simpa using h6
       have he' : ∀ j, j < i + 1 → xs[j]? = ys[j]? := fun j h => by
         by_cases c : j = i
         · rw [c, getG h5, getG (show i < ys.length by omega), e]
         · exact he j (by omega)
       refine WP.skip (WP.region (RG.ml rfl rfl rfl (RG.pv rfl (PV.add rfl rfl rfl (by omega)) (RG.mr rfl rfl rfl (RG.nil ?_)))))
       exact ⟨rfl, i + 1, ⟨by omega, he'⟩, ⟨rfl, trivial⟩, ⟨rfl, rfl, trivial⟩, Cv.p, by omega⟩
   · have h4 := of_decide_eq_false h4
     have e : decide (xs = ys) = true := by
       rw [decide_eq_true_iff]; exact pre_eq he hl (by omega)
     rw [e] at k
     refine WP.exit ?_
     refine WP.seq (WP.region (RG.br rfl rfl rfl (RG.nil ?_)))
     refine WP.ret ?_
     exact ⟨_, _, ResV.one rfl rfl, Cv.p, k⟩
def mkSh (_ : Shape) (k : Int) : Shape := ⟨k, ⟨k + 1, k + 1 + 1, k + 1 + 1 + 1, k + 1 + 1 + 1 + 1⟩⟩
def nSh (_ : Shape) : Int := 5
theorem nSh_cost (xs : List Shape) : costL nSh xs = 5 * xs.length := costL_const 5 xs
theorem mkSh_at {xs : List Shape} {i : Nat} {k0 kk : Int} (h : i < xs.length) (e : kk = k0 + 5 * i) : mkSh (gd xs i) (k0 + costL nSh (xs.take i)) = ⟨kk, ⟨kk + 1, kk + 1 + 1, kk + 1 + 1 + 1, kk + 1 + 1 + 1 + 1⟩⟩ := by
 rw [mkSh, nSh_cost, List.length_take, Nat.min_eq_left (by omega), e]
def mkIn (_ : Inst) (k : Int) : Inst := ⟨k, ⟨k + 1, k + 1 + 1, k + 1 + 1 + 1⟩, k + 1 + 1 + 1 + 1, k + 1 + 1 + 1 + 1 + 1, k + 1 + 1 + 1 + 1 + 1 + 1, k + 1 + 1 + 1 + 1 + 1 + 1 + 1⟩
def nIn (_ : Inst) : Int := 8
theorem nIn_cost (xs : List Inst) : costL nIn xs = 8 * xs.length := costL_const 8 xs
theorem mkIn_at {xs : List Inst} {i : Nat} {k0 kk : Int} (h : i < xs.length) (e : kk = k0 + 8 * i) : mkIn (gd xs i) (k0 + costL nIn (xs.take i)) = ⟨kk, ⟨kk + 1, kk + 1 + 1, kk + 1 + 1 + 1⟩, kk + 1 + 1 + 1 + 1, kk + 1 + 1 + 1 + 1 + 1, kk + 1 + 1 + 1 + 1 + 1 + 1, kk + 1 + 1 + 1 + 1 + 1 + 1 + 1⟩ := by
 rw [mkIn, nIn_cost, List.length_take, Nat.min_eq_left (by omega), e]
theorem markShapeS_s {v : Value} {xs : List Shape} {k0 : Int} (hk : 0 ≤ k0) (hb : k0 + costL nSh xs ≤ 4611686018427387904) (k : R (vi (k0 + costL nSh xs)) G (osl 155 shapeT v (markL mkSh nSh xs k0) :: L)) : CallT Tryz.prog 86 #[v, vi k0] G (osl 155 shapeT v xs :: L) R := by
 have hc := nSh_cost xs
 refine CallT.cv (Cv.eqS (markTo_zero (mk := mkSh) (n := nSh) (k := k0)).symm) ?_
 refine CallT.enter (args := _) Tryz.func86 rfl rfl (by kernel_rfl) rfl ?_
 refine WP.seq (WP.region (RG.mr rfl rfl rfl (RG.nil (WP.seq (WP.seq (WP.region (RG.mr rfl rfl rfl ?_)))))))
 refine RG.nil (WP.block ?_)
 refine WP.loop2 [0] (fun (i : Nat) (kk : Int) => i ≤ xs.length ∧ kk = k0 + 5 * i) (fun (i : Nat) (kk : Int) => [(5, vi i), (1, vi kk)]) (fun (i : Nat) (kk : Int) => osl 155 shapeT v (markTo mkSh nSh xs k0 i) :: L) (fun (i : Nat) (kk : Int) => xs.length - i) 0 k0 ⟨by omega, by omega⟩ ⟨rfl, rfl, trivial⟩ Cv.p ?_
 rintro i kk τ ⟨hi, hkk⟩
 refine WP.seq (WP.seq (WP.region (RG.ml rfl rfl rfl (RG.pv rfl (PV.move (v := v) rfl rfl) (RG.pv rfl (PV.len (v := v) rfl Tryz.underlying111 rfl SlF.o) (RG.pv rfl (PV.lss rfl rfl rfl) (RG.nil ?_)))))))
 have hml := markTo_len (mk := mkSh) (n := nSh) (k := k0) hi
 refine WP.cond rfl (fun h1 => ?_) (fun h1 => ?_)
 · have h1 := of_decide_eq_true h1
   have h2 : i < xs.length := by omega
   refine WP.skip (WP.seq (WP.block (WP.seq (WP.region (RG.pv rfl (PV.move (v := v) rfl rfl) (RG.ml rfl rfl rfl (RG.ml rfl rfl rfl ?_)))))))
   refine RG.pv rfl (PV.idxS (v := v) rfl Is111 rfl SlF.o rfl rfl (by omega)) (RG.pv rfl (PV.field rfl Fo155_0 rfl) ?_)
   refine RG.ot rfl (OT.storeF (F := shapeT) (val := vi) (cv := fun u => [vi u]) (st := Shape.s0) rfl Sz2 rfl rfl rfl (Cl.c rfl) rfl (OneC.c rfl) (by exact set_self (by omega)) (by first | omega | (simp; omega)) rfl (fun _ _ => rfl) ?_)
   refine RG.nil (WP.seq (WP.region (RG.ml rfl rfl rfl (RG.pv rfl (PV.add rfl rfl rfl (by first | omega | (simp only [List.length_set]; omega))) (RG.mr rfl rfl rfl (RG.nil (WP.seq ?_)))))))
   refine WP.region (RG.pv rfl (PV.move (v := v) rfl rfl) (RG.ml rfl rfl rfl (RG.ml rfl rfl rfl (RG.pv rfl (PV.idxS (v := v) rfl Is111 rfl SlF.o rfl rfl (by first | omega | (simp only [List.length_set]; omega))) (RG.pv rfl (PV.field rfl Fo155_1 rfl) (RG.pv rfl (PV.field rfl Fo91_0 rfl) ?_))))))
   refine RG.ot rfl (OT.storeF (F := shapeT) (val := vi) (cv := fun u => [vi u]) (j := 1) (st := Shape.s1_0) rfl Sz2 rfl rfl rfl (Cl.c rfl) rfl (OneC.c rfl) (by rfl) (by first | omega | (simp; omega)) rfl (fun _ _ => rfl) ?_)
   refine RG.nil (WP.seq (WP.region (RG.ml rfl rfl rfl (RG.pv rfl (PV.add rfl rfl rfl (by first | omega | (simp only [List.length_set]; omega))) (RG.mr rfl rfl rfl (RG.nil (WP.seq ?_)))))))
   refine WP.region (RG.pv rfl (PV.move (v := v) rfl rfl) (RG.ml rfl rfl rfl (RG.ml rfl rfl rfl (RG.pv rfl (PV.idxS (v := v) rfl Is111 rfl SlF.o rfl rfl (by first | omega | (simp only [List.length_set]; omega))) (RG.pv rfl (PV.field rfl Fo155_1 rfl) (RG.pv rfl (PV.field rfl Fo91_1 rfl) ?_))))))
   refine RG.ot rfl (OT.storeF (F := shapeT) (val := vi) (cv := fun u => [vi u]) (j := 2) (st := Shape.s1_1) rfl Sz2 rfl rfl rfl (Cl.c rfl) rfl (OneC.c rfl) (by rfl) (by first | omega | (simp; omega)) rfl (fun _ _ => rfl) ?_)
   refine RG.nil (WP.seq (WP.region (RG.ml rfl rfl rfl (RG.pv rfl (PV.add rfl rfl rfl (by first | omega | (simp only [List.length_set]; omega))) (RG.mr rfl rfl rfl (RG.nil (WP.seq ?_)))))))
   refine WP.region (RG.pv rfl (PV.move (v := v) rfl rfl) (RG.ml rfl rfl rfl (RG.ml rfl rfl rfl (RG.pv rfl (PV.idxS (v := v) rfl Is111 rfl SlF.o rfl rfl (by first | omega | (simp only [List.length_set]; omega))) (RG.pv rfl (PV.field rfl Fo155_1 rfl) (RG.pv rfl (PV.field rfl Fo91_2 rfl) ?_))))))
   refine RG.ot rfl (OT.storeF (F := shapeT) (val := vi) (cv := fun u => [vi u]) (j := 3) (st := Shape.s1_2) rfl Sz2 rfl rfl rfl (Cl.c rfl) rfl (OneC.c rfl) (by rfl) (by first | omega | (simp; omega)) rfl (fun _ _ => rfl) ?_)
   refine RG.nil (WP.seq (WP.region (RG.ml rfl rfl rfl (RG.pv rfl (PV.add rfl rfl rfl (by first | omega | (simp only [List.length_set]; omega))) (RG.mr rfl rfl rfl (RG.nil (WP.seq ?_)))))))
   refine WP.region (RG.pv rfl (PV.move (v := v) rfl rfl) (RG.ml rfl rfl rfl (RG.ml rfl rfl rfl (RG.pv rfl (PV.idxS (v := v) rfl Is111 rfl SlF.o rfl rfl (by first | omega | (simp only [List.length_set]; omega))) (RG.pv rfl (PV.field rfl Fo155_1 rfl) (RG.pv rfl (PV.field rfl Fo91_3 rfl) ?_))))))
   refine RG.ot rfl (OT.storeF (F := shapeT) (val := vi) (cv := fun u => [vi u]) (j := 4) (st := Shape.s1_3) rfl Sz2 rfl rfl rfl (Cl.c rfl) rfl (OneC.c rfl) (by rfl) (by first | omega | (simp; omega)) rfl (fun _ _ => rfl) ?_)
   refine RG.nil (WP.region (RG.ml rfl rfl rfl (RG.pv rfl (PV.add rfl rfl rfl (by first | omega | (simp only [List.length_set]; omega))) (RG.mr rfl rfl rfl (RG.nil (WP.region (RG.ml rfl rfl rfl ?_)))))))
   refine RG.pv rfl (PV.add rfl rfl rfl (by first | omega | (simp only [List.length_set]; omega))) (RG.mr rfl rfl rfl (RG.nil ?_))
   exact ⟨rfl, i + 1, _, ⟨by omega, by omega⟩, ⟨rfl, rfl, trivial⟩, ⟨rfl, trivial⟩, (Cv.eqS (by rw [← markTo_set h2, mkSh_at h2 hkk])), by omega⟩
 · have h1 := of_decide_eq_false h1
   have e : kk = k0 + costL nSh xs := by omega
   rw [← e] at k
   refine WP.exit ?_
   refine WP.seq (WP.region (RG.ml rfl rfl rfl (RG.mr rfl rfl rfl (RG.nil ?_))))
   refine WP.ret ?_
   exact ⟨_, _, ResV.one rfl rfl, (Cv.eqS (markTo_all (by omega))), k⟩
theorem markInstS_s {v : Value} {xs : List Inst} {k0 : Int} (hk : 0 ≤ k0) (hb : k0 + costL nIn xs ≤ 4611686018427387904) (k : R (vi (k0 + costL nIn xs)) G (osl 173 instT v (markL mkIn nIn xs k0) :: L)) : CallT Tryz.prog 88 #[v, vi k0] G (osl 173 instT v xs :: L) R := by
 have hc := nIn_cost xs
 refine CallT.cv (Cv.eqS (markTo_zero (mk := mkIn) (n := nIn) (k := k0)).symm) ?_
 refine CallT.enter (args := _) Tryz.func88 rfl rfl (by kernel_rfl) rfl ?_
 refine WP.seq (WP.region (RG.mr rfl rfl rfl (RG.nil (WP.seq (WP.seq (WP.region (RG.mr rfl rfl rfl ?_)))))))
 refine RG.nil (WP.block ?_)
 refine WP.loop2 [0] (fun (i : Nat) (kk : Int) => i ≤ xs.length ∧ kk = k0 + 8 * i) (fun (i : Nat) (kk : Int) => [(5, vi i), (1, vi kk)]) (fun (i : Nat) (kk : Int) => osl 173 instT v (markTo mkIn nIn xs k0 i) :: L) (fun (i : Nat) (kk : Int) => xs.length - i) 0 k0 ⟨by omega, by omega⟩ ⟨rfl, rfl, trivial⟩ Cv.p ?_
 rintro i kk τ ⟨hi, hkk⟩
 refine WP.seq (WP.seq (WP.region (RG.ml rfl rfl rfl (RG.pv rfl (PV.move (v := v) rfl rfl) (RG.pv rfl (PV.len (v := v) rfl Tryz.underlying113 rfl SlF.o) (RG.pv rfl (PV.lss rfl rfl rfl) (RG.nil ?_)))))))
 have hml := markTo_len (mk := mkIn) (n := nIn) (k := k0) hi
 refine WP.cond rfl (fun h1 => ?_) (fun h1 => ?_)
 · have h1 := of_decide_eq_true h1
   have h2 : i < xs.length := by omega
   refine WP.skip (WP.seq (WP.block (WP.seq (WP.region (RG.pv rfl (PV.move (v := v) rfl rfl) (RG.ml rfl rfl rfl (RG.ml rfl rfl rfl ?_)))))))
   refine RG.pv rfl (PV.idxS (v := v) rfl Is113 rfl SlF.o rfl rfl (by omega)) (RG.pv rfl (PV.field rfl Fo173_0 rfl) ?_)
   refine RG.ot rfl (OT.storeF (F := instT) (val := vi) (cv := fun u => [vi u]) (st := Inst.s0) rfl Sz2 rfl rfl rfl (Cl.c rfl) rfl (OneC.c rfl) (by exact set_self (by omega)) (by first | omega | (simp; omega)) rfl (fun _ _ => rfl) ?_)
   refine RG.nil (WP.seq (WP.region (RG.ml rfl rfl rfl (RG.pv rfl (PV.add rfl rfl rfl (by first | omega | (simp only [List.length_set]; omega))) (RG.mr rfl rfl rfl (RG.nil (WP.seq ?_)))))))
   refine WP.region (RG.pv rfl (PV.move (v := v) rfl rfl) (RG.ml rfl rfl rfl (RG.ml rfl rfl rfl (RG.pv rfl (PV.idxS (v := v) rfl Is113 rfl SlF.o rfl rfl (by first | omega | (simp only [List.length_set]; omega))) (RG.pv rfl (PV.field rfl Fo173_1 rfl) (RG.pv rfl (PV.field rfl Fo95_0 rfl) ?_))))))
   refine RG.ot rfl (OT.storeF (F := instT) (val := vi) (cv := fun u => [vi u]) (j := 1) (st := Inst.s1_0) rfl Sz2 rfl rfl rfl (Cl.c rfl) rfl (OneC.c rfl) (by rfl) (by first | omega | (simp; omega)) rfl (fun _ _ => rfl) ?_)
   refine RG.nil (WP.seq (WP.region (RG.ml rfl rfl rfl (RG.pv rfl (PV.add rfl rfl rfl (by first | omega | (simp only [List.length_set]; omega))) (RG.mr rfl rfl rfl (RG.nil (WP.seq ?_)))))))
   refine WP.region (RG.pv rfl (PV.move (v := v) rfl rfl) (RG.ml rfl rfl rfl (RG.ml rfl rfl rfl (RG.pv rfl (PV.idxS (v := v) rfl Is113 rfl SlF.o rfl rfl (by first | omega | (simp only [List.length_set]; omega))) (RG.pv rfl (PV.field rfl Fo173_1 rfl) (RG.pv rfl (PV.field rfl Fo95_1 rfl) ?_))))))
   refine RG.ot rfl (OT.storeF (F := instT) (val := vi) (cv := fun u => [vi u]) (j := 2) (st := Inst.s1_1) rfl Sz2 rfl rfl rfl (Cl.c rfl) rfl (OneC.c rfl) (by rfl) (by first | omega | (simp; omega)) rfl (fun _ _ => rfl) ?_)
   refine RG.nil (WP.seq (WP.region (RG.ml rfl rfl rfl (RG.pv rfl (PV.add rfl rfl rfl (by first | omega | (simp only [List.length_set]; omega))) (RG.mr rfl rfl rfl (RG.nil (WP.seq ?_)))))))
   refine WP.region (RG.pv rfl (PV.move (v := v) rfl rfl) (RG.ml rfl rfl rfl (RG.ml rfl rfl rfl (RG.pv rfl (PV.idxS (v := v) rfl Is113 rfl SlF.o rfl rfl (by first | omega | (simp only [List.length_set]; omega))) (RG.pv rfl (PV.field rfl Fo173_1 rfl) (RG.pv rfl (PV.field rfl Fo95_2 rfl) ?_))))))
   refine RG.ot rfl (OT.storeF (F := instT) (val := vi) (cv := fun u => [vi u]) (j := 3) (st := Inst.s1_2) rfl Sz2 rfl rfl rfl (Cl.c rfl) rfl (OneC.c rfl) (by rfl) (by first | omega | (simp; omega)) rfl (fun _ _ => rfl) ?_)
   refine RG.nil (WP.seq (WP.region (RG.ml rfl rfl rfl (RG.pv rfl (PV.add rfl rfl rfl (by first | omega | (simp only [List.length_set]; omega))) (RG.mr rfl rfl rfl (RG.nil (WP.seq ?_)))))))
   refine WP.region (RG.pv rfl (PV.move (v := v) rfl rfl) (RG.ml rfl rfl rfl (RG.ml rfl rfl rfl (RG.pv rfl (PV.idxS (v := v) rfl Is113 rfl SlF.o rfl rfl (by first | omega | (simp only [List.length_set]; omega))) (RG.pv rfl (PV.field rfl Fo173_2 rfl) ?_)))))
   refine RG.ot rfl (OT.storeF (F := instT) (val := vi) (cv := fun u => [vi u]) (st := Inst.s2) rfl Sz2 rfl rfl rfl (Cl.c rfl) rfl (OneC.c rfl) (by rfl) (by first | omega | (simp; omega)) rfl (fun _ _ => rfl) ?_)
   refine RG.nil (WP.seq (WP.region (RG.ml rfl rfl rfl (RG.pv rfl (PV.add rfl rfl rfl (by first | omega | (simp only [List.length_set]; omega))) (RG.mr rfl rfl rfl (RG.nil (WP.seq ?_)))))))
   refine WP.region (RG.pv rfl (PV.move (v := v) rfl rfl) (RG.ml rfl rfl rfl (RG.ml rfl rfl rfl (RG.pv rfl (PV.idxS (v := v) rfl Is113 rfl SlF.o rfl rfl (by first | omega | (simp only [List.length_set]; omega))) (RG.pv rfl (PV.field rfl Fo173_3 rfl) ?_)))))
   refine RG.ot rfl (OT.storeF (F := instT) (val := vi) (cv := fun u => [vi u]) (st := Inst.s3) rfl Sz2 rfl rfl rfl (Cl.c rfl) rfl (OneC.c rfl) (by rfl) (by first | omega | (simp; omega)) rfl (fun _ _ => rfl) ?_)
   refine RG.nil (WP.seq (WP.region (RG.ml rfl rfl rfl (RG.pv rfl (PV.add rfl rfl rfl (by first | omega | (simp only [List.length_set]; omega))) (RG.mr rfl rfl rfl (RG.nil (WP.seq ?_)))))))
   refine WP.region (RG.pv rfl (PV.move (v := v) rfl rfl) (RG.ml rfl rfl rfl (RG.ml rfl rfl rfl (RG.pv rfl (PV.idxS (v := v) rfl Is113 rfl SlF.o rfl rfl (by first | omega | (simp only [List.length_set]; omega))) (RG.pv rfl (PV.field rfl Fo173_4 rfl) ?_)))))
   refine RG.ot rfl (OT.storeF (F := instT) (val := vi) (cv := fun u => [vi u]) (st := Inst.s4) rfl Sz2 rfl rfl rfl (Cl.c rfl) rfl (OneC.c rfl) (by rfl) (by first | omega | (simp; omega)) rfl (fun _ _ => rfl) ?_)
   refine RG.nil (WP.seq (WP.region (RG.ml rfl rfl rfl (RG.pv rfl (PV.add rfl rfl rfl (by first | omega | (simp only [List.length_set]; omega))) (RG.mr rfl rfl rfl (RG.nil (WP.seq ?_)))))))
   refine WP.region (RG.pv rfl (PV.move (v := v) rfl rfl) (RG.ml rfl rfl rfl (RG.ml rfl rfl rfl (RG.pv rfl (PV.idxS (v := v) rfl Is113 rfl SlF.o rfl rfl (by first | omega | (simp only [List.length_set]; omega))) (RG.pv rfl (PV.field rfl Fo173_5 rfl) ?_)))))
   refine RG.ot rfl (OT.storeF (F := instT) (val := vi) (cv := fun u => [vi u]) (st := Inst.s5) rfl Sz2 rfl rfl rfl (Cl.c rfl) rfl (OneC.c rfl) (by rfl) (by first | omega | (simp; omega)) rfl (fun _ _ => rfl) ?_)
   refine RG.nil (WP.region (RG.ml rfl rfl rfl (RG.pv rfl (PV.add rfl rfl rfl (by first | omega | (simp only [List.length_set]; omega))) (RG.mr rfl rfl rfl (RG.nil (WP.region (RG.ml rfl rfl rfl ?_)))))))
   refine RG.pv rfl (PV.add rfl rfl rfl (by first | omega | (simp only [List.length_set]; omega))) (RG.mr rfl rfl rfl (RG.nil ?_))
   exact ⟨rfl, i + 1, _, ⟨by omega, by omega⟩, ⟨rfl, rfl, trivial⟩, ⟨rfl, trivial⟩, (Cv.eqS (by rw [← markTo_set h2, mkIn_at h2 hkk])), by omega⟩
 · have h1 := of_decide_eq_false h1
   have e : kk = k0 + costL nIn xs := by omega
   rw [← e] at k
   refine WP.exit ?_
   refine WP.seq (WP.region (RG.ml rfl rfl rfl (RG.mr rfl rfl rfl (RG.nil ?_))))
   refine WP.ret ?_
   exact ⟨_, _, ResV.one rfl rfl, (Cv.eqS (markTo_all (by omega))), k⟩
theorem gd_setE' {α : Type} [Inhabited α] {xs : List α} {i : Nat} {a : α} (h : i < xs.length) : gd (xs.set i a) i = a := by unfold gd; simp [h]
theorem gd_setN {α : Type} [Inhabited α] {xs : List α} {i j : Nat} {a : α} (h : i ≠ j) : gd (xs.set i a) j = gd xs j := by unfold gd; rw [List.getElem?_set_ne h]
def shs (xs : List Cell) : List (Sl Shape) := xs.map Cell.shapes
def lbs (xs : List Cell) : List (Sl Label) := xs.map Cell.labels
def ins (xs : List Cell) : List (Sl Inst) := xs.map Cell.insts
/-- the library reads as xs -/
structure RLib (G : Gh) (L : List Ch) (v : Value) (xs : List Cell) : Prop where
  c : Rs G L cellT v xs
  s : RsE G L shapeT (shs xs)
  l : RsE G L labelT (lbs xs)
  n : RsE G L instT (ins xs)
theorem RLib.up {L' : List Ch} {v : Value} {xs : List Cell} (h : RLib G L v xs) [p : PickC L L'] : RLib G L' v xs := ⟨h.c.up, h.s.up, h.l.up, h.n.up⟩
theorem RLib.cv {L' : List Ch} {v : Value} {xs : List Cell} (c : Cv L' L) (h : RLib G L v xs) : RLib G L' v xs := ⟨h.c.cv c, h.s.cv c, h.l.cv c, h.n.cv c⟩
theorem RLib.sa {v : Value} {xs : List Cell} (h : RLib G L v xs) {i : Nat} (hi : i < xs.length) : Rs G L shapeT (gd xs i).shapes.v (gd xs i).shapes.xs := by
 have := h.s i (by simpa [shs] using hi); rwa [shs, gd_map _ hi] at this
theorem RLib.la {v : Value} {xs : List Cell} (h : RLib G L v xs) {i : Nat} (hi : i < xs.length) : Rs G L labelT (gd xs i).labels.v (gd xs i).labels.xs := by
 have := h.l i (by simpa [lbs] using hi); rwa [lbs, gd_map _ hi] at this
theorem RLib.na {v : Value} {xs : List Cell} (h : RLib G L v xs) {i : Nat} (hi : i < xs.length) : Rs G L instT (gd xs i).insts.v (gd xs i).insts.xs := by
 have := h.n i (by simpa [ins] using hi); rwa [ins, gd_map _ hi] at this
/-- the cells of a cell of the library are one each -/
theorem RLib.one {L' : List Ch} {v : Value} {xs : List Cell} (h : RLib G L v xs) {i : Nat} (hi : i < xs.length) [p : PickC L L'] : OneC G L' [.string (gd xs i).name, (gd xs i).shapes.v, (gd xs i).labels.v, (gd xs i).insts.v] :=
 OneC.val rfl (OneC.sl (SlF.r (h.sa hi)) (OneC.sl (SlF.r (h.la hi)) (OneC.sl (SlF.r (h.na hi)) OneC.nil)))
/-- names are no longer than a machine bears -/
def lenL (ls : List Label) : Prop := ∀ i, i < ls.length → (gd ls i).name.size ≤ 9223372036854775807
def lenC (cs : List ECell) : Prop := ∀ i, i < cs.length → (gd cs i).name.size ≤ 9223372036854775807 ∧ lenL (gd cs i).labels
/-- lists of at most 2^20 -/
def few (cs : List ECell) : Prop := cs.length ≤ 1048576 ∧ ∀ i, i < cs.length → (gd cs i).shapes.length ≤ 1048576 ∧ (gd cs i).labels.length ≤ 1048576 ∧ (gd cs i).insts.length ≤ 1048576
theorem toCell_s {c : Cell} (h1 : Rs G L shapeT c.shapes.v c.shapes.xs) (h2 : Rs G L labelT c.labels.v c.labels.xs) (h3 : Rs G L instT c.insts.v c.insts.xs) (hb : c.shapes.xs.length ≤ 1048576 ∧ c.labels.xs.length ≤ 1048576 ∧ c.insts.xs.length ≤ 1048576)
   (k : ∀ v1 v2 v3, R (vT cellT ⟨c.name, ⟨v1, c.shapes.xs⟩, ⟨v2, c.labels.xs⟩, ⟨v3, c.insts.xs⟩⟩) G (osl 155 shapeT v1 c.shapes.xs :: osl 191 labelT v2 c.labels.xs :: osl 173 instT v3 c.insts.xs :: L)) : CallT Tryz.prog 75 #[vT cellT c] G L R := by
 refine CallT.enter (args := _) Tryz.func75 rfl rfl (by kernel_rfl) rfl ?_
 refine WP.seq (WP.region ?_)
 refine RG.ot rfl (OT.box (cs := cellT.enc c) rfl rfl rfl fun b1 => ?_)
 refine RG.ot rfl (OT.alloc rfl Zr115 fun b2 => ?_)
 refine RG.nil (WP.seq (WP.region ?_))
 refine RG.ot rfl (OT.alloc rfl Zr115 fun b3 => ?_)
 refine RG.nil (WP.seq (WP.region (RG.pv rfl (PV.field rfl Fo124_0 rfl) (RG.pv rfl (PV.load1 rfl Sc9 rfl (Rd.blk rfl)) (RG.pv rfl (PV.field rfl Fo115_0 rfl) ?_)))))
 refine RG.ot rfl (OT.storeB (vs := [.string _]) (cs' := [_, _, _, _]) rfl Sz9 rfl rfl (Cl.c rfl) rfl (OneC.c rfl) rfl rfl ?_)
 refine RG.nil (WP.seq (WP.region (RG.pv rfl (PV.field rfl Fo124_1 rfl) (RG.pv rfl (PV.load1 rfl Sc120 rfl (Rd.blk rfl)) ?_))))
 refine RG.callF (vs := [_]) rfl rfl En145 rfl (toShapeS_s (Rs.up h1) (by omega) (fun v9 => ?_))
 refine RG.pv rfl (PV.field rfl Fo115_1 rfl) ?_
 refine RG.ot rfl (OT.storeB (v := v9) (vs := [_]) (cs' := [_, _, _, _]) rfl Sz111 rfl rfl (Cl.s (v := v9) SlF.o) rfl (OneC.sl SlF.o OneC.nil) rfl rfl ?_)
 refine RG.nil (WP.seq (WP.region (RG.pv rfl (PV.field rfl Fo124_2 rfl) (RG.pv rfl (PV.load1 rfl Sc121 rfl (Rd.blk rfl)) ?_))))
 refine RG.callF (vs := [_]) rfl rfl En146 rfl (toLabelS_s (Rs.up h2) (by omega) (fun v13 => ?_))
 refine RG.pv rfl (PV.field rfl Fo115_2 rfl) ?_
 refine RG.ot rfl (OT.storeB (v := v13) (vs := [_]) (cs' := [_, _, _, _]) rfl Sz112 rfl rfl (Cl.s (v := v13) SlF.o) rfl (OneC.sl SlF.o OneC.nil) rfl rfl ?_)
 refine RG.nil (WP.seq (WP.region (RG.pv rfl (PV.field rfl Fo124_3 rfl) (RG.pv rfl (PV.load1 rfl Sc122 rfl (Rd.blk rfl)) ?_))))
 refine RG.callF (vs := [_]) rfl rfl En147 rfl (toInstS_s (Rs.up h3) (by omega) (fun v17 => ?_))
 refine RG.pv rfl (PV.field rfl Fo115_3 rfl) ?_
 refine RG.ot rfl (OT.storeB (v := v17) (vs := [_]) (cs' := [_, _, _, _]) rfl Sz113 rfl rfl (Cl.s (v := v17) SlF.o) rfl (OneC.sl SlF.o OneC.nil) rfl rfl ?_)
 refine RG.nil (WP.seq (WP.region (RG.pv rfl (PV.loadW rfl Ag115 rfl rfl) ?_)))
 refine RG.ot rfl (OT.storeW (vs := [.string _, _, _, _]) rfl Sz115 rfl rfl (Cl.c rfl) rfl rfl (OneC.val rfl (OneC.sl SlF.o (OneC.sl SlF.o (OneC.sl SlF.o OneC.nil)))) ?_)
 refine RG.nil ?_
 refine WP.ret ?_
 exact ⟨_, _, ResV.one rfl (RV1.cell rfl Ag115 rfl), Cv.p, k v9 v13 v17⟩
theorem Cv.grow3 {α β γ : Type} {e1 e2 e3 : TypeId} {F1 : FT α} {F2 : FT β} {F3 : FT γ} {u1 u2 u3 : Value} {us1 : List α} {us2 : List β} {us3 : List γ} {y1 y1' : List (Sl α)} {y2 y2' : List (Sl β)} {y3 y3' : List (Sl γ)} (h1 : y1' = y1 ++ [⟨u1, us1⟩]) (h2 : y2' = y2 ++ [⟨u2, us2⟩]) (h3 : y3' = y3 ++ [⟨u3, us3⟩]) :
   Cv (osl e1 F1 u1 us1 :: osl e2 F2 u2 us2 :: osl e3 F3 u3 us3 :: bagS e1 F1 y1 :: bagS e2 F2 y2 :: bagS e3 F3 y3 :: L) (bagS e1 F1 y1' :: bagS e2 F2 y2' :: bagS e3 F3 y3' :: L) :=
 (Cv.p (C := osl e1 F1 u1 us1 :: bagS e1 F1 y1 :: osl e2 F2 u2 us2 :: bagS e2 F2 y2 :: osl e3 F3 u3 us3 :: bagS e3 F3 y3 :: L)).trans ((Cv.grow h1).trans (Cv.cons ((Cv.grow h2).trans (Cv.cons (Cv.grow h3)))))
/-- .. the same with the cells themselves -/
theorem few.one {xs : List Cell} {i : Nat} (hf : few (erCls xs)) (hi : i < xs.length) : (gd xs i).shapes.xs.length ≤ 1048576 ∧ (gd xs i).labels.xs.length ≤ 1048576 ∧ (gd xs i).insts.xs.length ≤ 1048576 := by
 have := hf.2 i (by rw [erCls_len]; exact hi)
 rwa [erCls_gd hi] at this
theorem erCls_of {xs ys : List Cell} (hl : xs.length = ys.length) (h : ∀ i, i < ys.length → erCl (gd xs i) = erCl (gd ys i)) : erCls xs = erCls ys := by
 apply List.ext_getElem?
 intro i
 by_cases hi : i < ys.length
 · rw [getG (by rw [erCls_len]; omega), getG (by rw [erCls_len]; omega), erCls_gd (by omega), erCls_gd hi, h i hi]
 · rw [List.getElem?_eq_none (by rw [erCls_len]; omega), List.getElem?_eq_none (by rw [erCls_len]; omega)]
theorem toCellS_s {v : Value} {xs : List Cell} (hL : RLib G L v xs) (hf : few (erCls xs)) (k : ∀ v' ys, erCls ys = erCls xs → R v' G (osl 115 cellT v' (ys) :: bagS 155 shapeT (shs (ys)) :: bagS 191 labelT (lbs (ys)) :: bagS 173 instT (ins (ys)) :: L)) : CallT Tryz.prog 39 #[v] G L R := by
 have hb : xs.length ≤ 1048576 := by have := hf.1; rwa [erCls_len] at this
 refine CallT.enter (args := _) Tryz.func39 rfl rfl (by kernel_rfl) rfl ?_
 refine WP.seq (WP.region (RG.pv rfl (PV.asg rfl rfl) (RG.nil (WP.seq (WP.region (RG.pv rfl (PV.move (v := v) rfl rfl) (RG.pv rfl (PV.len (v := v) rfl Tryz.underlying22 rfl (SlF.r hL.c)) ?_)))))))
 refine RG.ot rfl (OT.make (F := cellT) (a0 := default) rfl El33 rfl (by decide) rfl rfl (by omega) (by omega) fun v7 => ?_)
 refine RG.pv rfl (PV.asg (v := v7) rfl rfl) (RG.nil (WP.seq (WP.seq (WP.region (RG.mr rfl rfl rfl (RG.nil (WP.block ?_)))))))
 refine WP.cv (Cv.cons (((Cv.bag0 (e := 173) (F := instT) (xs := ins ((List.replicate xs.length default).take 0)) rfl).trans (Cv.bag0 (e := 191) (F := labelT) (xs := lbs ((List.replicate xs.length default).take 0)) rfl)).trans (Cv.bag0 (e := 155) (F := shapeT) (xs := shs ((List.replicate xs.length default).take 0)) rfl))) ?_
 refine WP.loop2 [0, 3] (fun (i : Nat) (ys : List Cell) => i ≤ xs.length ∧ ys.length = xs.length ∧ ∀ j, j < i → erCl (gd ys j) = erCl (gd xs j)) (fun (i : Nat) (ys : List Cell) => [(4, vi i)]) (fun (i : Nat) (ys : List Cell) => osl 115 cellT v7 ys :: bagS 155 shapeT (shs (ys.take i)) :: bagS 191 labelT (lbs (ys.take i)) :: bagS 173 instT (ins (ys.take i)) :: L) (fun (i : Nat) (ys : List Cell) => xs.length - i) 0 (List.replicate xs.length default) ⟨by omega, by simp, fun j h => by omega⟩ ⟨rfl, trivial⟩ Cv.p ?_
 rintro i ys τ ⟨hi, hl, he⟩
 refine WP.seq (WP.seq (WP.region (RG.ml rfl rfl rfl (RG.pv rfl (PV.move (v := v) rfl rfl) (RG.pv rfl (PV.len (v := v) rfl Tryz.underlying22 rfl (SlF.r hL.c)) (RG.pv rfl (PV.lss rfl rfl rfl) (RG.nil ?_)))))))
 refine WP.cond rfl (fun h2 => ?_) (fun h2 => ?_)
 · have h2 := of_decide_eq_true h2
   have h3 : i < ys.length := by omega
   refine WP.skip (WP.seq (WP.block (WP.region (RG.pv rfl (PV.move (v := v7) rfl rfl) (RG.ml rfl rfl rfl (RG.pv rfl (PV.move (v := v) rfl rfl) (RG.ml rfl rfl rfl ?_)))))))
   refine RG.pv rfl (PV.idxS (v := v) rfl Is22 rfl (SlF.r hL.c) rfl rfl (by omega)) (RG.pv rfl (PV.loadE rfl Ag124 rfl rfl (El.r hL.c (getG (by omega)))) ?_)
   refine RG.callF (vs := [_]) rfl rfl En75 rfl (toCell_s (hL.sa (by omega)).up (hL.la (by omega)).up (hL.na (by omega)).up (few.one hf (by omega)) (fun a1 a2 a3 => ?_))
   refine RG.pv rfl (PV.idxS (v := v7) rfl Is33 rfl SlF.o rfl rfl (by omega)) ?_
   refine RG.ot rfl (OT.storeE (a := ⟨(gd xs i).name, ⟨a1, (gd xs i).shapes.xs⟩, ⟨a2, (gd xs i).labels.xs⟩, ⟨a3, (gd xs i).insts.xs⟩⟩) (F := cellT) rfl Sz115 rfl rfl rfl (Cl.c rfl) (OneC.val rfl (OneC.sl (SlF.o (v := a1)) (OneC.sl (SlF.o (v := a2)) (OneC.sl (SlF.o (v := a3)) OneC.nil)))) (by omega) ?_)
   refine RG.nil (WP.region (RG.ml rfl rfl rfl (RG.pv rfl (PV.add rfl rfl rfl (by omega)) (RG.mr rfl rfl rfl (RG.nil ?_)))))
   refine ⟨rfl, i + 1, _, ⟨by omega, by simpa using hl, fun j hj => ?_⟩, ⟨rfl, trivial⟩, ⟨rfl, rfl, trivial⟩, (Cv.cons (Cv.grow3 (by rw [take_set_succ h3]; simp [shs]) (by rw [take_set_succ h3]; simp [lbs]) (by rw [take_set_succ h3]; simp [ins]))), by omega⟩
   by_cases c : j = i
   · subst c; simp [gd, h3, erCl]
   · have := he j (by omega)
     simpa [gd, List.getElem?_set, Ne.symm c] using this
 · have h2 := of_decide_eq_false h2
   have e : ys.take i = ys := List.take_of_length_le (by omega)
   rw [e]
   refine WP.exit ?_
   refine WP.seq (WP.region (RG.pv rfl (PV.move (v := v7) rfl rfl) (RG.pv rfl (PV.asg (v := v7) rfl rfl) (RG.nil ?_))))
   refine WP.ret ?_
   exact ⟨_, _, ResV.one rfl rfl, Cv.p, k v7 ys (erCls_of hl (fun j hj => he j (by omega)))⟩
theorem toLib_s {l : Lib} (hL : RLib G L l.cells.v l.cells.xs) (hf : few (erCls l.cells.xs)) (k : ∀ v' ys, erCls ys = erCls l.cells.xs → R (vT libT ⟨⟨v', ys⟩⟩) G (osl 115 cellT v' (ys) :: bagS 155 shapeT (shs (ys)) :: bagS 191 labelT (lbs (ys)) :: bagS 173 instT (ins (ys)) :: L)) : CallT Tryz.prog 10 #[vT libT l] G L R := by
 refine CallT.enter (args := _) Tryz.func10 rfl rfl (by kernel_rfl) rfl ?_
 refine WP.seq (WP.region ?_)
 refine RG.ot rfl (OT.box (cs := libT.enc l) rfl rfl rfl fun b1 => ?_)
 refine RG.ot rfl (OT.alloc rfl Zr35 fun b2 => ?_)
 refine RG.nil (WP.seq (WP.region ?_))
 refine RG.ot rfl (OT.alloc rfl Zr35 fun b3 => ?_)
 refine RG.nil (WP.seq (WP.region (RG.pv rfl (PV.field rfl Fo24_0 rfl) (RG.pv rfl (PV.load1 rfl Sc22 rfl (Rd.blk rfl)) ?_))))
 refine RG.callF (vs := [_]) rfl rfl En39 rfl (toCellS_s hL.up hf (fun v6 ysv6 hev6 => ?_))
 refine RG.pv rfl (PV.field rfl Fo35_0 rfl) ?_
 refine RG.ot rfl (OT.storeB (v := v6) (vs := [_]) (cs' := [_]) rfl Sz33 rfl rfl (Cl.s (v := v6) SlF.o) rfl (OneC.sl SlF.o OneC.nil) rfl rfl ?_)
 refine RG.nil (WP.seq (WP.region (RG.pv rfl (PV.loadW rfl Ag35 rfl rfl) ?_)))
 refine RG.ot rfl (OT.storeW (vs := [_]) rfl Sz35 rfl rfl (Cl.c rfl) rfl rfl (OneC.sl SlF.o OneC.nil) ?_)
 refine RG.nil ?_
 refine WP.ret ?_
 exact ⟨_, _, ResV.one rfl (RV1.cell rfl Ag35 rfl), Cv.p, k _ _ (by assumption)⟩
theorem szLbS_le {xs : List Label} {n : Int} (h0 : 0 ≤ n) : szLbS xs n ≤ n := by
 have : ∀ (l : List Label) (m : Int), szLb l m ≤ m ∨ szLb l m = -1 := by
   intro l
   induction l with
   | nil => intro m; exact .inl (Int.le_refl _)
   | cons w l ih =>
     intro m
     rw [szLb]
     split
     · exact .inr rfl
     · rcases ih (m - w.name.size) with h | h
       · exact .inl (by omega)
       · exact .inr h
 unfold szLbS; split
 · omega
 · rcases this xs (n - xs.length) with h | h <;> omega
theorem szCell_s {c : Cell} {n : Int} (h1 : Rs G L shapeT c.shapes.v c.shapes.xs) (h2 : Rs G L labelT c.labels.v c.labels.xs) (h3 : Rs G L instT c.insts.v c.insts.xs) (hs : c.name.size ≤ 9223372036854775807) (hlen : lenL c.labels.xs) (hn : n ≤ 1048576) (h0 : 0 ≤ n)
   (k : ∀ r : Int, r ≤ n → (0 ≤ r → (c.shapes.xs.length : Int) ≤ n ∧ (c.labels.xs.length : Int) ≤ n ∧ (c.insts.xs.length : Int) ≤ n) → R (vi r) G L) : CallT Tryz.prog 69 #[vT cellT c, vi n] G L R := by
 have hx := @szLbS_le c.labels.xs
 have hy := @szLbS_len c.labels.xs
 refine CallT.enter (args := _) Tryz.func69 rfl rfl (by kernel_rfl) rfl ?_
 refine WP.seq (WP.region ?_)
 refine RG.ot rfl (OT.box (cs := cellT.enc c) rfl rfl rfl fun b2 => ?_)
 refine RG.mr rfl rfl rfl (RG.nil (WP.seq (WP.region (RG.ml rfl rfl rfl (RG.pv rfl (PV.field rfl Fo124_0 rfl) (RG.pv rfl (PV.load1 rfl Sc9 rfl (Rd.blk rfl)) (RG.pv rfl (PV.lenS rfl Tryz.underlying9 rfl) ?_)))))))
 refine RG.pv rfl (PV.sub rfl rfl rfl (by omega)) (RG.mr rfl rfl rfl (RG.nil (WP.seq (WP.seq (WP.region (RG.ml rfl rfl rfl (RG.pv rfl (PV.lss rfl rfl rfl) ?_)))))))
 refine RG.nil ?_
 refine WP.cond rfl (fun h4 => ?_) (fun h4 => ?_)
 · refine WP.seq ?_
   refine WP.region (RG.mr rfl rfl rfl (RG.nil ?_))
   refine WP.ret ?_
   exact ⟨_, _, ResV.one rfl rfl, Cv.p, k _ (by omega) (fun h => by omega)⟩
 · have h4 := of_decide_eq_false h4
   refine WP.skip (WP.seq (WP.region (RG.pv rfl (PV.field rfl Fo124_1 rfl) (RG.pv rfl (PV.load1 rfl Sc120 rfl (Rd.blk rfl)) (RG.ml rfl rfl rfl ?_)))))
   refine RG.callF (vs := [_, _]) rfl rfl En134 rfl (szShapeS_s (Rs.up h1) (by omega) (by omega) (fun r1 hr1 hr1' => ?_))
   refine RG.mr rfl rfl rfl (RG.nil (WP.seq (WP.seq (WP.region (RG.ml rfl rfl rfl (RG.pv rfl (PV.lss rfl rfl rfl) (RG.nil ?_)))))))
   refine WP.cond rfl (fun h5 => ?_) (fun h5 => ?_)
   · refine WP.seq ?_
     refine WP.region (RG.mr rfl rfl rfl (RG.nil ?_))
     refine WP.ret ?_
     exact ⟨_, _, ResV.one rfl rfl, Cv.p, k _ (by omega) (fun h => by omega)⟩
   · have h5 := of_decide_eq_false h5
     refine WP.skip (WP.seq (WP.region (RG.pv rfl (PV.field rfl Fo124_2 rfl) (RG.pv rfl (PV.load1 rfl Sc121 rfl (Rd.blk rfl)) (RG.ml rfl rfl rfl ?_)))))
     refine RG.callF (vs := [_, _]) rfl rfl En135 rfl (szLabelS_s (Rs.up h2) (by omega) (by omega) hlen ?_)
     refine RG.mr rfl rfl rfl (RG.nil (WP.seq (WP.seq (WP.region (RG.ml rfl rfl rfl (RG.pv rfl (PV.lss rfl rfl rfl) (RG.nil ?_)))))))
     refine WP.cond rfl (fun h6 => ?_) (fun h6 => ?_)
     · refine WP.seq ?_
       refine WP.region (RG.mr rfl rfl rfl (RG.nil ?_))
       refine WP.ret ?_
       exact ⟨_, _, ResV.one rfl rfl, Cv.p, k _ (by omega) (fun h => by omega)⟩
     · have h6 := of_decide_eq_false h6
       have hx1 := hx (n := r1) (by omega)
       have hy1 := hy (n := r1) (by omega)
       refine WP.skip (WP.seq (WP.region (RG.pv rfl (PV.field rfl Fo124_3 rfl) (RG.pv rfl (PV.load1 rfl Sc122 rfl (Rd.blk rfl)) (RG.ml rfl rfl rfl ?_)))))
       refine RG.callF (vs := [_, _]) rfl rfl En136 rfl (szInstanceS_s (Rs.up h3) (by omega) (by omega) (fun r3 hr3 hr3' => ?_))
       refine RG.mr rfl rfl rfl (RG.nil (WP.seq (WP.seq (WP.region (RG.ml rfl rfl rfl (RG.pv rfl (PV.lss rfl rfl rfl) (RG.nil ?_)))))))
       refine WP.cond rfl (fun h7 => ?_) (fun h7 => ?_)
       · refine WP.seq ?_
         refine WP.region (RG.mr rfl rfl rfl (RG.nil ?_))
         refine WP.ret ?_
         exact ⟨_, _, ResV.one rfl rfl, Cv.p, k _ (by omega) (fun h => by omega)⟩
       · have h7 := of_decide_eq_false h7
         refine WP.skip (WP.seq (WP.region (RG.ml rfl rfl rfl (RG.mr rfl rfl rfl (RG.nil ?_)))))
         refine WP.ret ?_
         exact ⟨_, _, ResV.one rfl rfl, Cv.p, k _ (by omega) (fun h => ⟨by omega, by omega, by omega⟩)⟩
theorem lenC.one {xs : List Cell} (h : lenC (erCls xs)) {i : Nat} (hi : i < xs.length) : (gd xs i).name.size ≤ 9223372036854775807 ∧ lenL (gd xs i).labels.xs := by
 have := h i (by rw [erCls_len]; exact hi); rwa [erCls_gd hi] at this
theorem eqCell_s {c d : Cell} (h1 : Rs G L shapeT c.shapes.v c.shapes.xs) (h2 : Rs G L labelT c.labels.v c.labels.xs) (h3 : Rs G L instT c.insts.v c.insts.xs) (g1 : Rs G L shapeT d.shapes.v d.shapes.xs) (g2 : Rs G L labelT d.labels.v d.labels.xs) (g3 : Rs G L instT d.insts.v d.insts.xs) (he : erCl c = erCl d) (k : R (.bool true) G L) : CallT Tryz.prog 83 #[vT cellT c, vT cellT d] G L R := by
 have e0 : c.name = d.name := congrArg ECell.name he
 have e1 : c.shapes.xs = d.shapes.xs := congrArg ECell.shapes he
 have e2 : c.labels.xs = d.labels.xs := congrArg ECell.labels he
 have e3 : c.insts.xs = d.insts.xs := congrArg ECell.insts he
 refine CallT.enter (args := _) Tryz.func83 rfl rfl (by kernel_rfl) rfl ?_
 refine WP.seq (WP.region ?_)
 refine RG.ot rfl (OT.box (cs := cellT.enc c) rfl rfl rfl fun b2 => ?_)
 refine RG.ot rfl (OT.box (cs := cellT.enc d) rfl rfl rfl fun b3 => ?_)
 refine RG.br rfl rfl rfl (RG.nil (WP.seq (WP.seq (WP.region (RG.pv rfl (PV.field rfl Fo115_0 rfl) (RG.pv rfl (PV.load1 rfl Sc9 rfl (Rd.blk rfl)) (RG.pv rfl (PV.field rfl Fo115_0 rfl) ?_)))))))
 refine RG.pv rfl (PV.load1 rfl Sc9 rfl (Rd.blk rfl)) (RG.pv rfl (PV.neqS rfl rfl rfl) (RG.nil ?_))
 refine WP.cond rfl (fun h4 => ?_) (fun h4 => ?_)
 · exfalso; simp [e0] at h4
 refine WP.skip (WP.seq (WP.seq (WP.region (RG.pv rfl (PV.field rfl Fo115_1 rfl) (RG.pv rfl (PV.load1 rfl Sc111 rfl (Rd.blk rfl)) (RG.pv rfl (PV.field rfl Fo115_1 rfl) (RG.pv rfl (PV.load1 rfl Sc111 rfl (Rd.blk rfl)) ?_)))))))
 refine RG.callF (vs := [_, _]) rfl rfl En164 rfl (eqShapeS_s (Rs.up h1) (Rs.up g1) ?_)
 refine RG.pv rfl (PV.not rfl rfl) (RG.nil ?_)
 refine WP.cond rfl (fun h5 => ?_) (fun h5 => ?_)
 · exfalso; simp [e1] at h5
 refine WP.skip (WP.seq (WP.seq (WP.region (RG.pv rfl (PV.field rfl Fo115_2 rfl) (RG.pv rfl (PV.load1 rfl Sc112 rfl (Rd.blk rfl)) (RG.pv rfl (PV.field rfl Fo115_2 rfl) (RG.pv rfl (PV.load1 rfl Sc112 rfl (Rd.blk rfl)) ?_)))))))
 refine RG.callF (vs := [_, _]) rfl rfl En165 rfl (eqLabelS_s (Rs.up h2) (Rs.up g2) ?_)
 refine RG.pv rfl (PV.not rfl rfl) (RG.nil ?_)
 refine WP.cond rfl (fun h6 => ?_) (fun h6 => ?_)
 · exfalso; simp [e2] at h6
 refine WP.skip (WP.seq (WP.seq (WP.region (RG.pv rfl (PV.field rfl Fo115_3 rfl) (RG.pv rfl (PV.load1 rfl Sc113 rfl (Rd.blk rfl)) (RG.pv rfl (PV.field rfl Fo115_3 rfl) (RG.pv rfl (PV.load1 rfl Sc113 rfl (Rd.blk rfl)) ?_)))))))
 refine RG.callF (vs := [_, _]) rfl rfl En166 rfl (eqInstS_s (Rs.up h3) (Rs.up g3) ?_)
 refine RG.pv rfl (PV.not rfl rfl) (RG.nil ?_)
 refine WP.cond rfl (fun h7 => ?_) (fun h7 => ?_)
 · exfalso; simp [e3] at h7
 refine WP.skip (WP.seq (WP.region (RG.br rfl rfl rfl (RG.nil ?_))))
 refine WP.ret ?_
 exact ⟨_, _, ResV.one rfl rfl, Cv.p, k⟩
theorem eqCellS_s {v u : Value} {xs ys : List Cell} (hL : RLib G L v xs) (hM : RLib G L u ys) (he : erCls xs = erCls ys) (k : R (.bool true) G L) : CallT Tryz.prog 45 #[v, u] G L R := by
 have hl : xs.length = ys.length := by rw [← erCls_len, he, erCls_len]
 refine CallT.bd hL.c fun hb => ?_
 refine CallT.enter (args := _) Tryz.func45 rfl rfl (by kernel_rfl) rfl ?_
 refine WP.seq (WP.region (RG.br rfl rfl rfl (RG.nil (WP.seq (WP.seq (WP.region (RG.pv rfl (PV.move (v := v) rfl rfl) ?_)))))))
 refine RG.pv rfl (PV.len (v := v) rfl Tryz.underlying33 rfl (SlF.r hL.c)) (RG.pv rfl (PV.move (v := u) rfl rfl) (RG.pv rfl (PV.len (v := u) rfl Tryz.underlying33 rfl (SlF.r hM.c)) (RG.pv rfl (PV.neq rfl rfl rfl) (RG.nil ?_))))
 refine WP.cond rfl (fun h3 => ?_) (fun h3 => ?_)
 · exfalso; simp [hl] at h3
 refine WP.skip (WP.seq (WP.seq (WP.region (RG.mr rfl rfl rfl (RG.nil (WP.block ?_))))))
 refine WP.loop1 [0, 1] (fun i => i ≤ xs.length) (fun i => [(5, vi i)]) (fun i => L) (fun i => xs.length - i) 0 (by omega) ⟨rfl, trivial⟩ Cv.p ?_
 rintro i τ hi
 refine WP.seq (WP.seq (WP.region (RG.ml rfl rfl rfl (RG.pv rfl (PV.move (v := v) rfl rfl) (RG.pv rfl (PV.len (v := v) rfl Tryz.underlying33 rfl (SlF.r hL.c)) (RG.pv rfl (PV.lss rfl rfl rfl) (RG.nil ?_)))))))
 refine WP.cond rfl (fun h4 => ?_) (fun h4 => ?_)
 · have h4 := of_decide_eq_true h4
   refine WP.skip (WP.seq (WP.block (WP.seq ?_)))
   refine WP.regionQ (by kernel_rfl) (by kernel_rfl) ?_
   refine RQ.pv rfl (PV.move (v := v) rfl rfl) ?_
   refine RQ.pv rfl (PV.mvI (.inl rfl) rfl) ?_
   refine RQ.pv rfl (PV.idxS (v := v) rfl Is33 rfl (SlF.r hL.c) rfl rfl (by omega)) ?_
   refine RQ.pv rfl (PV.loadE rfl Ag115 rfl rfl (El.r hL.c (getG (by omega)))) ?_
   refine RQ.pv rfl (PV.move (v := u) rfl rfl) ?_
   refine RQ.pv rfl (PV.mvI (.inl rfl) rfl) ?_
   refine RQ.pv rfl (PV.idxS (v := u) rfl Is33 rfl (SlF.r hM.c) rfl rfl (by omega)) ?_
   refine RQ.pv rfl (PV.loadE rfl Ag115 rfl rfl (El.r hM.c (getG (by omega)))) ?_
   refine RQ.callF (vs := [_, _]) rfl rfl En83 rfl (eqCell_s (hL.sa (by omega)).up (hL.la (by omega)).up (hL.na (by omega)).up (hM.sa (by omega)).up (hM.la (by omega)).up (hM.na (by omega)).up (by rw [← erCls_gd (by omega), ← erCls_gd (by omega), he]) ⟨rfl, rfl, rfl⟩) ?_
   refine RQ.pv rfl (PV.not rfl rfl) ?_
   refine RQ.nil ?_
   refine WP.cond rfl (fun h6 => ?_) (fun h6 => ?_)
   · exfalso; simp at h6
   refine WP.skip (WP.region (RG.ml rfl rfl rfl (RG.pv rfl (PV.add rfl rfl rfl (by omega)) (RG.mr rfl rfl rfl (RG.nil ?_)))))
   exact ⟨rfl, i + 1, (by omega), ⟨rfl, trivial⟩, ⟨rfl, rfl, trivial⟩, Cv.p, by omega⟩
 · refine WP.exit ?_
   refine WP.seq (WP.region (RG.br rfl rfl rfl (RG.nil ?_)))
   refine WP.ret ?_
   exact ⟨_, _, ResV.one rfl rfl, Cv.p, k⟩
theorem eqLib_s {l m : Lib} (hL : RLib G L l.cells.v l.cells.xs) (hM : RLib G L m.cells.v m.cells.xs) (he : erCls l.cells.xs = erCls m.cells.xs) (k : R (.bool true) G L) : CallT Tryz.prog 14 #[vT libT l, vT libT m] G L R := by
 refine CallT.enter (args := _) Tryz.func14 rfl rfl (by kernel_rfl) rfl ?_
 refine WP.seq (WP.region ?_)
 refine RG.ot rfl (OT.box (cs := libT.enc l) rfl rfl rfl fun b2 => ?_)
 refine RG.ot rfl (OT.box (cs := libT.enc m) rfl rfl rfl fun b3 => ?_)
 refine RG.br rfl rfl rfl (RG.nil (WP.seq (WP.seq (WP.region (RG.pv rfl (PV.field rfl Fo35_0 rfl) (RG.pv rfl (PV.load1 rfl Sc33 rfl (Rd.blk rfl)) (RG.pv rfl (PV.field rfl Fo35_0 rfl) ?_)))))))
 refine RG.pv rfl (PV.load1 rfl Sc33 rfl (Rd.blk rfl)) ?_
 refine RG.callF (vs := [_, _]) rfl rfl En45 rfl (eqCellS_s hL.up hM.up he ?_)
 refine RG.pv rfl (PV.not rfl rfl) (RG.nil ?_)
 refine WP.cond rfl (fun h3 => ?_) (fun h3 => ?_)
 · exfalso; simp at h3
 refine WP.skip (WP.seq (WP.region (RG.br rfl rfl rfl (RG.nil ?_))))
 refine WP.ret ?_
 exact ⟨_, _, ResV.one rfl rfl, Cv.p, k⟩
theorem Cv.uncons {α : Type} {e : TypeId} {F : FT α} {s : Sl α} {ss : List (Sl α)} : Cv (bagS e F (s :: ss) :: L) (osl e F s.v s.xs :: bagS e F ss :: L) := by
 have h : Cv (bag ((s :: ss).map (ownS e F)) :: L) ((s :: ss).map (ownS e F) ++ L) := Cv.ofBag
 exact h.trans (Cv.cons (c := osl e F s.v s.xs) Cv.toBag)
theorem Cv.uncons3 {α β γ : Type} {e1 e2 e3 : TypeId} {F1 : FT α} {F2 : FT β} {F3 : FT γ} {y1 y1' : List (Sl α)} {y2 y2' : List (Sl β)} {y3 y3' : List (Sl γ)} {s1 : Sl α} {s2 : Sl β} {s3 : Sl γ} (h1 : y1 = s1 :: y1') (h2 : y2 = s2 :: y2') (h3 : y3 = s3 :: y3') :
   Cv (bagS e1 F1 y1 :: bagS e2 F2 y2 :: bagS e3 F3 y3 :: L) (osl e1 F1 s1.v s1.xs :: osl e2 F2 s2.v s2.xs :: osl e3 F3 s3.v s3.xs :: bagS e1 F1 y1' :: bagS e2 F2 y2' :: bagS e3 F3 y3' :: L) := by
 subst h1; subst h2; subst h3
 exact ((Cv.uncons.trans (Cv.cons (Cv.cons (Cv.uncons.trans (Cv.cons (Cv.cons Cv.uncons)))))).trans Cv.p)
theorem CallT.eqv {P : Program} {f : FuncId} {v v' u : Value} (h : v = v') (k : CallT P f #[v', u] G L R) : CallT P f #[v, u] G L R := h ▸ k
end Go.Proofs.YtgphjofccckloaaGreat
namespace Go.Proofs.YtgphjofccckloaaGreat
set_option linter.unusedVariables false
set_option linter.unusedSimpArgs false
open Go
set_option maxRecDepth 20000
set_option linter.unusedSimpArgs false
variable {G : Gh} {L : List Ch} {R : Value → Gh → List Ch → Prop}
theorem okSh_i {s : Shape} (k : R (.bool (okSh s)) G L) : CallT Tryz.prog 151 #[vT shapeT s] G L R := by
 refine CallT.enter (args := _) Tryz.func151 rfl rfl (by kernel_rfl) rfl ?_
 refine WP.seq (WP.region ?_)
 refine RG.ot rfl (OT.box (cs := shapeT.enc s) rfl rfl rfl fun b1 => ?_)
 refine RG.br rfl rfl rfl (RG.nil (WP.seq (WP.region (RG.pv rfl (PV.field rfl Fo155_0 rfl) (RG.pv rfl (PV.load1 rfl Sc2 rfl (Rd.blk rfl)) ?_)))))
 refine RG.callF (vs := [_, _, _]) rfl rfl En100 rfl (within_s ?_)
 refine RG.bl rfl rfl rfl ?_
 refine RG.gs rfl rfl rfl (fun hp => (PV.field rfl Fo155_1 rfl)) ?_
 refine RG.gs rfl rfl rfl (fun hp => (PV.loadB (vs := [_, _, _, _]) rfl Ag91 (gs_t hp) rfl rfl)) ?_
 refine RG.gsC rfl rfl rfl rfl En124 (fun hp => ⟨_, (acons (gs_t hp) anil), validRect_s ⟨rfl, rfl, rfl⟩⟩) ?_
 refine RG.pv rfl (PV.pickA rfl rfl (fun hq => gs_t (geqT hq)) rfl) (RG.br rfl rfl rfl (RG.nil ?_))
 refine WP.ret ?_
 exact ⟨_, _, ResV.one rfl rfl, Cv.p, k⟩
theorem validT_i {t : Trans} (k : R (.bool (validT t)) G L) : CallT Tryz.prog 129 #[vtrans t] G L R := by
 refine CallT.enter (args := _) Tryz.func129 rfl rfl (by kernel_rfl) rfl ?_
 refine WP.seq (WP.region ?_)
 refine RG.ot rfl (OT.box (cs := transT.enc t) rfl rfl rfl fun b1 => ?_)
 refine RG.br rfl rfl rfl (RG.nil (WP.seq (WP.region (RG.pv rfl (PV.field rfl Fo95_0 rfl) (RG.pv rfl (PV.load1 rfl Sc2 rfl (Rd.blk rfl)) ?_)))))
 refine RG.callF (vs := [_, _, _]) rfl rfl En100 rfl (within_s ?_)
 refine RG.bl rfl rfl rfl ?_
 refine RG.gs rfl rfl rfl (fun hp => (PV.field rfl Fo95_1 rfl)) ?_
 refine RG.gs rfl rfl rfl (fun hp => (PV.load1 rfl Sc2 (gs_t hp) (Rd.blk rfl))) ?_
 refine RG.gsC rfl rfl rfl rfl En100 (fun hp => ⟨_, (acons (gs_t hp) (acons rfl (acons rfl anil))), within_s ⟨rfl, rfl, rfl⟩⟩) ?_
 refine RG.pv rfl (PV.pickA rfl rfl (fun hq => gs_t (geqT hq)) rfl) (RG.bl rfl rfl rfl ?_)
 refine RG.gs rfl rfl rfl (fun hp => (PV.field rfl Fo95_2 rfl)) ?_
 refine RG.gs rfl rfl rfl (fun hp => (PV.load1 rfl Sc2 (gs_t hp) (Rd.blk rfl))) ?_
 refine RG.gsC rfl rfl rfl rfl En100 (fun hp => ⟨_, (acons (gs_t hp) (acons rfl (acons rfl anil))), within_s ⟨rfl, rfl, rfl⟩⟩) ?_
 refine RG.pv rfl (PV.pickA rfl rfl (fun hq => gs_t (geqT hq)) rfl) (RG.br rfl rfl rfl (RG.nil ?_))
 refine WP.ret ?_
 have e : validT t = ((within t.o 0 7 && within t.x (-80) 80) && within t.y (-80) 80) := (Bool.and_assoc _ _ _).symm
 rw [e] at k
 exact ⟨_, _, ResV.one rfl rfl, Cv.p, k⟩
theorem okIn_i {n : Inst} {k0 : Int} (hk : 0 ≤ k0 ∧ k0 ≤ 1000) (k : R (.bool (okIn k0 n)) G L) : CallT Tryz.prog 157 #[vT instT n, vi k0] G L R := by
 refine CallT.enter (args := _) Tryz.func157 rfl rfl (by kernel_rfl) rfl ?_
 refine WP.seq (WP.region ?_)
 refine RG.ot rfl (OT.box (cs := instT.enc n) rfl rfl rfl fun b2 => ?_)
 refine RG.br rfl rfl rfl (RG.nil (WP.seq (WP.region (RG.pv rfl (PV.field rfl Fo173_0 rfl) (RG.pv rfl (PV.load1 rfl Sc2 rfl (Rd.blk rfl)) (RG.ml rfl rfl rfl (RG.pv rfl (PV.sub rfl rfl rfl (by omega)) ?_)))))))
 refine RG.callF (vs := [_, _, _]) rfl rfl En100 rfl (within_s ?_)
 refine RG.bl rfl rfl rfl ?_
 refine RG.gs rfl rfl rfl (fun hp => (PV.field rfl Fo173_1 rfl)) ?_
 refine RG.gs rfl rfl rfl (fun hp => (PV.loadB (vs := [_, _, _]) rfl Ag95 (gs_t hp) rfl rfl)) ?_
 refine RG.gsC rfl rfl rfl rfl En129 (fun hp => ⟨_, (acons (gs_t hp) anil), validT_i ⟨rfl, rfl, rfl⟩⟩) ?_
 refine RG.pv rfl (PV.pickA rfl rfl (fun hq => gs_t (geqT hq)) rfl) (RG.bl rfl rfl rfl ?_)
 refine RG.gs rfl rfl rfl (fun hp => (PV.field rfl Fo173_2 rfl)) ?_
 refine RG.gs rfl rfl rfl (fun hp => (PV.load1 rfl Sc2 (gs_t hp) (Rd.blk rfl))) ?_
 refine RG.gsC rfl rfl rfl rfl En100 (fun hp => ⟨_, (acons (gs_t hp) (acons rfl (acons rfl anil))), within_s ⟨rfl, rfl, rfl⟩⟩) ?_
 refine RG.pv rfl (PV.pickA rfl rfl (fun hq => gs_t (geqT hq)) rfl) (RG.bl rfl rfl rfl ?_)
 refine RG.gs rfl rfl rfl (fun hp => (PV.field rfl Fo173_3 rfl)) ?_
 refine RG.gs rfl rfl rfl (fun hp => (PV.load1 rfl Sc2 (gs_t hp) (Rd.blk rfl))) ?_
 refine RG.gsC rfl rfl rfl rfl En100 (fun hp => ⟨_, (acons (gs_t hp) (acons rfl (acons rfl anil))), within_s ⟨rfl, rfl, rfl⟩⟩) ?_
 refine RG.pv rfl (PV.pickA rfl rfl (fun hq => gs_t (geqT hq)) rfl) (RG.bl rfl rfl rfl ?_)
 refine RG.gs rfl rfl rfl (fun hp => (PV.field rfl Fo173_4 rfl)) ?_
 refine RG.gs rfl rfl rfl (fun hp => (PV.load1 rfl Sc2 (gs_t hp) (Rd.blk rfl))) ?_
 refine RG.gsC rfl rfl rfl rfl En100 (fun hp => ⟨_, (acons (gs_t hp) (acons rfl (acons rfl anil))), within_s ⟨rfl, rfl, rfl⟩⟩) ?_
 refine RG.pv rfl (PV.pickA rfl rfl (fun hq => gs_t (geqT hq)) rfl) (RG.bl rfl rfl rfl ?_)
 refine RG.gs rfl rfl rfl (fun hp => (PV.field rfl Fo173_5 rfl)) ?_
 refine RG.gs rfl rfl rfl (fun hp => (PV.load1 rfl Sc2 (gs_t hp) (Rd.blk rfl))) ?_
 refine RG.gsC rfl rfl rfl rfl En100 (fun hp => ⟨_, (acons (gs_t hp) (acons rfl (acons rfl anil))), within_s ⟨rfl, rfl, rfl⟩⟩) ?_
 refine RG.pv rfl (PV.pickA rfl rfl (fun hq => gs_t (geqT hq)) rfl) (RG.bl rfl rfl rfl ?_)
 refine RG.gs rfl rfl rfl (fun hp => (PV.field rfl Fo173_4 rfl)) ?_
 refine RG.gs rfl rfl rfl (fun hp => (PV.load1 rfl Sc2 (gs_t hp) (Rd.blk rfl))) ?_
 refine RG.gs rfl rfl rfl (fun hp => (PV.eql rfl (gs_t hp) rfl)) ?_
 refine RG.gs rfl rfl rfl (fun hp => (PV.mvB (.inl rfl) (gs_t hp))) ?_
 refine RG.gs2 rfl rfl rfl (fun hp => (PV.field rfl Fo173_2 rfl)) ?_
 refine RG.gs2 rfl rfl rfl (fun hp => (PV.load1 rfl Sc2 (gs_t hp) (Rd.blk rfl))) ?_
 refine RG.gs2 rfl rfl rfl (fun hp => (PV.gtr rfl (gs_t hp) rfl)) ?_
 refine RG.gs rfl rfl rfl (fun hp => (PV.pickO rfl (gs_t hp) rfl (fun hq => gs_t (gandF hp hq)))) ?_
 refine RG.pv rfl (PV.pickA rfl rfl (fun hq => gs_t (geqT hq)) rfl) (RG.bl rfl rfl rfl ?_)
 refine RG.gs rfl rfl rfl (fun hp => (PV.field rfl Fo173_5 rfl)) ?_
 refine RG.gs rfl rfl rfl (fun hp => (PV.load1 rfl Sc2 (gs_t hp) (Rd.blk rfl))) ?_
 refine RG.gs rfl rfl rfl (fun hp => (PV.eql rfl (gs_t hp) rfl)) ?_
 refine RG.gs rfl rfl rfl (fun hp => (PV.mvB (.inl rfl) (gs_t hp))) ?_
 refine RG.gs2 rfl rfl rfl (fun hp => (PV.field rfl Fo173_3 rfl)) ?_
 refine RG.gs2 rfl rfl rfl (fun hp => (PV.load1 rfl Sc2 (gs_t hp) (Rd.blk rfl))) ?_
 refine RG.gs2 rfl rfl rfl (fun hp => (PV.gtr rfl (gs_t hp) rfl)) ?_
 refine RG.gs rfl rfl rfl (fun hp => (PV.pickO rfl (gs_t hp) rfl (fun hq => gs_t (gandF hp hq)))) ?_
 refine RG.pv rfl (PV.pickA rfl rfl (fun hq => gs_t (geqT hq)) rfl) (RG.br rfl rfl rfl (RG.nil ?_))
 refine WP.ret ?_
 exact ⟨_, _, ResV.one rfl rfl, Cv.p, k⟩
theorem notSh_s {s : Shape} (k : R (.bool (!okSh s)) G L) : CallT Tryz.prog 150 #[vT shapeT s] G L R := by
 refine CallT.enter (args := _) Tryz.func150 rfl rfl (by kernel_rfl) rfl ?_
 refine WP.seq (WP.region ?_)
 refine RG.ot rfl (OT.box (cs := shapeT.enc s) rfl rfl rfl fun b1 => ?_)
 refine RG.br rfl rfl rfl (RG.nil (WP.seq (WP.region (RG.pv rfl (PV.loadW rfl Ag155 rfl rfl) ?_))))
 refine RG.callF (vs := [_]) rfl rfl En151 rfl (okSh_i ?_)
 refine RG.pv rfl (PV.not rfl rfl) (RG.br rfl rfl rfl (RG.nil ?_))
 refine WP.ret ?_
 exact ⟨_, _, ResV.one rfl rfl, Cv.p, k⟩
theorem notLb2_s {l : Label} (hs : l.name.size ≤ 9223372036854775807) (k : R (.bool (!validLb l)) G L) : CallT Tryz.prog 153 #[vT labelT l] G L R := by
 refine CallT.enter (args := _) Tryz.func153 rfl rfl (by kernel_rfl) rfl ?_
 refine WP.seq (WP.region ?_)
 refine RG.ot rfl (OT.box (cs := labelT.enc l) rfl rfl rfl fun b1 => ?_)
 refine RG.br rfl rfl rfl (RG.nil (WP.seq (WP.region (RG.pv rfl (PV.loadW rfl Ag191 rfl rfl) ?_))))
 refine RG.callF (vs := [_]) rfl rfl En154 rfl (validLb_i hs ?_)
 refine RG.pv rfl (PV.not rfl rfl) (RG.br rfl rfl rfl (RG.nil ?_))
 refine WP.ret ?_
 exact ⟨_, _, ResV.one rfl rfl, Cv.p, k⟩
theorem notIn_s {n : Inst} {k0 : Int} {b : Nat} (hk : 0 ≤ k0 ∧ k0 ≤ 1000) (hb : Rd G L b 0 (vi k0)) (k : R (.bool (!okIn k0 n)) G L) : CallT Tryz.prog 156 #[vT instT n, .pointer (some ⟨b, 0, none⟩)] G L R := by
 refine CallT.enter (args := _) Tryz.func156 rfl rfl (by kernel_rfl) rfl ?_
 refine WP.seq (WP.region ?_)
 refine RG.ot rfl (OT.box (cs := instT.enc n) rfl rfl rfl fun b2 => ?_)
 refine RG.br rfl rfl rfl (RG.nil (WP.seq (WP.region (RG.pv rfl (PV.loadW rfl Ag173 rfl rfl) (RG.pv rfl (PV.load1 rfl Sc2 rfl (Rd.up hb)) ?_)))))
 refine RG.callF (vs := [_, _]) rfl rfl En157 rfl (okIn_i hk ?_)
 refine RG.pv rfl (PV.not rfl rfl) (RG.br rfl rfl rfl (RG.nil ?_))
 refine WP.ret ?_
 exact ⟨_, _, ResV.one rfl rfl, Cv.p, k⟩
theorem indexF_shape {v fv : Value} {xs : List (Shape)} {p : (Shape) → Bool} (h1 : Rs G L shapeT v xs) (hf : ∀ i, i < xs.length → CB Tryz.prog G L fv [vT shapeT (gd xs i)] (.bool (p (gd xs i)))) (k : R (vi (idxI p xs)) G L) : CallT Tryz.prog 222 #[v, fv] G L R := by
 refine CallT.bd h1 fun hb => ?_
 refine CallT.enter (args := _) Tryz.func222 rfl rfl (by kernel_rfl) rfl ?_
 refine WP.seq (WP.region (RG.mr rfl rfl rfl (RG.nil (WP.seq (WP.seq (WP.region (RG.pv rfl (PV.move (v := v) rfl rfl) ?_)))))))
 refine RG.pv rfl (PV.len (v := v) rfl Tryz.underlying111 rfl (SlF.r h1)) (RG.ml rfl rfl rfl (RG.nil (WP.block ?_)))
 refine WP.loop1 [0, 1, 7] (fun i => i ≤ xs.length ∧ ∀ j, j < i → p (gd xs j) = false) (fun i => [(8, vi i)]) (fun i => L) (fun i => xs.length - i) 0 ⟨by omega, fun j h => by omega⟩ ⟨rfl, trivial⟩ Cv.p ?_
 rintro i τ ⟨hi, hj⟩
 refine WP.seq (WP.region (RG.pv rfl (PV.lss rfl rfl rfl) (RG.nil (WP.seq ?_))))
 refine WP.cond rfl (fun h2 => ?_) (fun h2 => ?_)
 · have h2 := of_decide_eq_true h2
   refine WP.skip (WP.seq (WP.block (WP.seq (WP.region (RG.ml rfl rfl rfl (RG.mr rfl rfl rfl (RG.nil ?_)))))))
   refine WP.seq (WP.region (RG.pv rfl (PV.move (v := fv) rfl rfl) (RG.pv rfl (PV.move (v := v) rfl rfl) (RG.ml rfl rfl rfl (RG.pv rfl (PV.idxS (v := v) rfl Is111 rfl (SlF.r h1) rfl rfl (by omega)) (RG.pv rfl (PV.loadE rfl Ag155 rfl rfl (El.r h1 (getG (by omega)))) ?_))))))
   refine RG.callB (vs := [_]) rfl rfl rfl rfl (CB.up (hf i (by omega))) ?_
   refine RG.nil ?_
   refine WP.cond rfl (fun h3 => ?_) (fun h3 => ?_)
   · rw [idxI_at (by omega) h3 hj] at k
     refine WP.seq (WP.region (RG.ml rfl rfl rfl (RG.mr rfl rfl rfl (RG.nil ?_))))
     refine WP.ret ?_
     exact ⟨_, _, ResV.one rfl rfl, Cv.p, k⟩
   · have hj' : ∀ j, j < i + 1 → p (gd xs j) = false := fun j h => by
       by_cases c : j = i
       · rw [c]; exact h3
       · exact hj j (by omega)
     refine WP.skip (WP.region (RG.pv rfl (PV.add rfl rfl rfl (by omega)) (RG.ml rfl rfl rfl (RG.nil ?_))))
     exact ⟨rfl, i + 1, ⟨by omega, hj'⟩, ⟨rfl, trivial⟩, ⟨rfl, rfl, rfl, trivial⟩, Cv.p, by omega⟩
 · have h2 := of_decide_eq_false h2
   rw [idxI_none (fun j h => hj j (by omega))] at k
   refine WP.exit ?_
   refine WP.seq (WP.region (RG.mr rfl rfl rfl (RG.nil ?_)))
   refine WP.ret ?_
   exact ⟨_, _, ResV.one rfl rfl, Cv.p, k⟩
theorem containsF_shape {v fv : Value} {xs : List (Shape)} {p : (Shape) → Bool} (h1 : Rs G L shapeT v xs) (hf : ∀ i, i < xs.length → CB Tryz.prog G L fv [vT shapeT (gd xs i)] (.bool (p (gd xs i)))) (k : R (.bool (xs.any p)) G L) : CallT Tryz.prog 149 #[v, fv] G L R := by
 rw [← idxI_any] at k
 refine CallT.enter (args := _) Tryz.func149 rfl rfl (by kernel_rfl) rfl ?_
 refine WP.seq (WP.region (RG.br rfl rfl rfl (RG.nil (WP.seq (WP.region (RG.pv rfl (PV.move (v := v) rfl rfl) (RG.pv rfl (PV.move (v := fv) rfl rfl) ?_)))))))
 refine RG.callF (vs := [v, fv]) rfl rfl En222 rfl (indexF_shape (Rs.up h1) (fun i hi => (hf i hi).up) ?_)
 refine RG.pv rfl (PV.geq rfl rfl rfl) (RG.br rfl rfl rfl (RG.nil ?_))
 refine WP.ret ?_
 exact ⟨_, _, ResV.one rfl rfl, Cv.p, k⟩
theorem indexF_inst {v fv : Value} {xs : List (Inst)} {p : (Inst) → Bool} (h1 : Rs G L instT v xs) (hf : ∀ i, i < xs.length → CB Tryz.prog G L fv [vT instT (gd xs i)] (.bool (p (gd xs i)))) (k : R (vi (idxI p xs)) G L) : CallT Tryz.prog 225 #[v, fv] G L R := by
 refine CallT.bd h1 fun hb => ?_
 refine CallT.enter (args := _) Tryz.func225 rfl rfl (by kernel_rfl) rfl ?_
 refine WP.seq (WP.region (RG.mr rfl rfl rfl (RG.nil (WP.seq (WP.seq (WP.region (RG.pv rfl (PV.move (v := v) rfl rfl) ?_)))))))
 refine RG.pv rfl (PV.len (v := v) rfl Tryz.underlying113 rfl (SlF.r h1)) (RG.ml rfl rfl rfl (RG.nil (WP.block ?_)))
 refine WP.loop1 [0, 1, 7] (fun i => i ≤ xs.length ∧ ∀ j, j < i → p (gd xs j) = false) (fun i => [(8, vi i)]) (fun i => L) (fun i => xs.length - i) 0 ⟨by omega, fun j h => by omega⟩ ⟨rfl, trivial⟩ Cv.p ?_
 rintro i τ ⟨hi, hj⟩
 refine WP.seq (WP.region (RG.pv rfl (PV.lss rfl rfl rfl) (RG.nil (WP.seq ?_))))
 refine WP.cond rfl (fun h2 => ?_) (fun h2 => ?_)
 · have h2 := of_decide_eq_true h2
   refine WP.skip (WP.seq (WP.block (WP.seq (WP.region (RG.ml rfl rfl rfl (RG.mr rfl rfl rfl (RG.nil ?_)))))))
   refine WP.seq (WP.region (RG.pv rfl (PV.move (v := fv) rfl rfl) (RG.pv rfl (PV.move (v := v) rfl rfl) (RG.ml rfl rfl rfl (RG.pv rfl (PV.idxS (v := v) rfl Is113 rfl (SlF.r h1) rfl rfl (by omega)) (RG.pv rfl (PV.loadE rfl Ag173 rfl rfl (El.r h1 (getG (by omega)))) ?_))))))
   refine RG.callB (vs := [_]) rfl rfl rfl rfl (CB.up (hf i (by omega))) ?_
   refine RG.nil ?_
   refine WP.cond rfl (fun h3 => ?_) (fun h3 => ?_)
   · rw [idxI_at (by omega) h3 hj] at k
     refine WP.seq (WP.region (RG.ml rfl rfl rfl (RG.mr rfl rfl rfl (RG.nil ?_))))
     refine WP.ret ?_
     exact ⟨_, _, ResV.one rfl rfl, Cv.p, k⟩
   · have hj' : ∀ j, j < i + 1 → p (gd xs j) = false := fun j h => by
       by_cases c : j = i
       · rw [c]; exact h3
       · exact hj j (by omega)
     refine WP.skip (WP.region (RG.pv rfl (PV.add rfl rfl rfl (by omega)) (RG.ml rfl rfl rfl (RG.nil ?_))))
     exact ⟨rfl, i + 1, ⟨by omega, hj'⟩, ⟨rfl, trivial⟩, ⟨rfl, rfl, rfl, trivial⟩, Cv.p, by omega⟩
 · have h2 := of_decide_eq_false h2
   rw [idxI_none (fun j h => hj j (by omega))] at k
   refine WP.exit ?_
   refine WP.seq (WP.region (RG.mr rfl rfl rfl (RG.nil ?_)))
   refine WP.ret ?_
   exact ⟨_, _, ResV.one rfl rfl, Cv.p, k⟩
theorem containsF_inst {v fv : Value} {xs : List (Inst)} {p : (Inst) → Bool} (h1 : Rs G L instT v xs) (hf : ∀ i, i < xs.length → CB Tryz.prog G L fv [vT instT (gd xs i)] (.bool (p (gd xs i)))) (k : R (.bool (xs.any p)) G L) : CallT Tryz.prog 155 #[v, fv] G L R := by
 rw [← idxI_any] at k
 refine CallT.enter (args := _) Tryz.func155 rfl rfl (by kernel_rfl) rfl ?_
 refine WP.seq (WP.region (RG.br rfl rfl rfl (RG.nil (WP.seq (WP.region (RG.pv rfl (PV.move (v := v) rfl rfl) (RG.pv rfl (PV.move (v := fv) rfl rfl) ?_)))))))
 refine RG.callF (vs := [v, fv]) rfl rfl En225 rfl (indexF_inst (Rs.up h1) (fun i hi => (hf i hi).up) ?_)
 refine RG.pv rfl (PV.geq rfl rfl rfl) (RG.br rfl rfl rfl (RG.nil ?_))
 refine WP.ret ?_
 exact ⟨_, _, ResV.one rfl rfl, Cv.p, k⟩
theorem okCell_i {c : Cell} {k0 : Int} (hk : 0 ≤ k0 ∧ k0 ≤ 1000) (h1 : Rs G L shapeT c.shapes.v c.shapes.xs) (h2 : Rs G L labelT c.labels.v c.labels.xs) (h3 : Rs G L instT c.insts.v c.insts.xs) (hs : c.name.size ≤ 9223372036854775807) (hlen : lenL c.labels.xs)
   (k : R (.bool (okCell k0 (erCl c))) G L) : CallT Tryz.prog 76 #[vT cellT c, vi k0] G L R := by
 refine CallT.enter (args := _) Tryz.func76 rfl rfl (by kernel_rfl) rfl ?_
 refine WP.seq (WP.region ?_)
 refine RG.ot rfl (OT.box (cs := cellT.enc c) rfl rfl rfl fun b2 => ?_)
 refine RG.ot rfl (OT.box (cs := [vi k0]) rfl rfl rfl fun b3 => ?_)
 refine RG.br rfl rfl rfl (RG.nil (WP.seq (WP.seq (WP.region (RG.pv rfl (PV.field rfl Fo115_0 rfl) (RG.pv rfl (PV.load1 rfl Sc9 rfl (Rd.blk rfl)) ?_))))))
 refine RG.callF (vs := [_]) rfl rfl En148 rfl (isName_i hs ?_)
 refine RG.pv rfl (PV.not rfl rfl) (RG.bl rfl rfl rfl ?_)
 refine RG.gs rfl rfl rfl (fun hp => (PV.field rfl Fo115_1 rfl)) ?_
 refine RG.gs rfl rfl rfl (fun hp => (PV.load1 rfl Sc111 (gs_t hp) (Rd.blk rfl))) ?_
 refine RG.gs rfl rfl rfl (fun hp => (PV.len rfl Tryz.underlying111 (gs_t hp) (SlF.r h1))) ?_
 refine RG.gs rfl rfl rfl (fun hp => (PV.gtr rfl (gs_t hp) rfl)) ?_
 refine RG.pv rfl (PV.pickO rfl rfl rfl (fun hq => gs_t (geqF hq))) (RG.bl rfl rfl rfl ?_)
 refine RG.gs rfl rfl rfl (fun hp => (PV.field rfl Fo115_2 rfl)) ?_
 refine RG.gs rfl rfl rfl (fun hp => (PV.load1 rfl Sc112 (gs_t hp) (Rd.blk rfl))) ?_
 refine RG.gs rfl rfl rfl (fun hp => (PV.len rfl Tryz.underlying112 (gs_t hp) (SlF.r h2))) ?_
 refine RG.gs rfl rfl rfl (fun hp => (PV.gtr rfl (gs_t hp) rfl)) ?_
 refine RG.pv rfl (PV.pickO rfl rfl rfl (fun hq => gs_t (geqF hq))) (RG.bl rfl rfl rfl ?_)
 refine RG.gs rfl rfl rfl (fun hp => (PV.field rfl Fo115_3 rfl)) ?_
 refine RG.gs rfl rfl rfl (fun hp => (PV.load1 rfl Sc113 (gs_t hp) (Rd.blk rfl))) ?_
 refine RG.gs rfl rfl rfl (fun hp => (PV.len rfl Tryz.underlying113 (gs_t hp) (SlF.r h3))) ?_
 refine RG.gs rfl rfl rfl (fun hp => (PV.gtr rfl (gs_t hp) rfl)) ?_
 refine RG.pv rfl (PV.pickO rfl rfl rfl (fun hq => gs_t (geqF hq))) (RG.nil ?_)
 refine WP.cond rfl (fun h4 => ?_) (fun h4 => ?_)
 · have e : okCell k0 (erCl c) = false := by
     simp [okCell, erCl] at h4 ⊢
     grind
   rw [e] at k
   refine WP.seq (WP.region (RG.br rfl rfl rfl (RG.nil ?_)))
   refine WP.ret ?_
   exact ⟨_, _, ResV.one rfl rfl, Cv.p, k⟩
 · refine WP.skip ?_
   refine WP.seq (WP.region (RG.pv rfl (PV.field rfl Fo115_1 rfl) (RG.pv rfl (PV.load1 rfl Sc111 rfl (Rd.blk rfl)) ?_)))
   refine RG.callF (vs := [_, _]) rfl rfl En149 rfl (containsF_shape (Rs.up h1) (p := fun s => !okSh s) (fun i hi => CB.mk0 En150 fun L' R c k => notSh_s k) ?_)
   refine RG.pv rfl (PV.not rfl rfl) (RG.bl rfl rfl rfl ?_)
   refine RG.gs rfl rfl rfl (fun hp => (PV.field rfl Fo115_2 rfl)) ?_
   refine RG.gs rfl rfl rfl (fun hp => (PV.load1 rfl Sc112 (gs_t hp) (Rd.blk rfl))) ?_
   refine RG.gsC rfl rfl rfl rfl En152 (fun hp => ⟨_, (acons (gs_t hp) (acons rfl anil)), containsF_label (Rs.up h2) (p := fun l => !validLb l) (fun i hi => CB.mk0 En153 fun L' R c k => notLb2_s (hlen i hi) k) ⟨rfl, rfl, rfl⟩⟩) ?_
   refine RG.gs rfl rfl rfl (fun hp => (PV.not rfl (gs_t hp))) ?_
   refine RG.pv rfl (PV.pickA rfl rfl (fun hq => gs_t (geqT hq)) rfl) (RG.bl rfl rfl rfl ?_)
   refine RG.gs rfl rfl rfl (fun hp => (PV.field rfl Fo115_3 rfl)) ?_
   refine RG.gs rfl rfl rfl (fun hp => (PV.load1 rfl Sc113 (gs_t hp) (Rd.blk rfl))) ?_
   refine RG.gs rfl rfl rfl (fun hp => (PV.mkf1 rfl rfl)) ?_
   refine RG.gsC rfl rfl rfl rfl En155 (fun hp => ⟨_, (acons (gs_t hp) (acons (gs_t hp) anil)), containsF_inst (Rs.up h3) (p := fun n => !okIn k0 n) (fun i hi => CB.mk1 En156 fun L' R c k => notIn_s hk (Rd.cv (Rd.blk rfl) c) k) ⟨rfl, rfl, rfl⟩⟩) ?_
   refine RG.gs rfl rfl rfl (fun hp => (PV.not rfl (gs_t hp))) ?_
   refine RG.pv rfl (PV.pickA rfl rfl (fun hq => gs_t (geqT hq)) rfl) (RG.br rfl rfl rfl (RG.nil ?_))
   refine WP.ret ?_
   have e : okCell k0 (erCl c) = (!(c.shapes.xs.any fun s => !okSh s) && !(c.labels.xs.any fun l => !validLb l) && !(c.insts.xs.any fun n => !okIn k0 n)) := by
     simp [okCell, erCl] at h4 ⊢
     grind
   rw [e] at k
   exact ⟨_, _, ResV.one rfl rfl, Cv.p, k⟩
theorem named1_s {c : Cell} {nm : ByteArray} {b : Nat} (hb : Rd G L b 0 (.string nm)) (k : R (.bool (decide (c.name = nm))) G L) : CallT Tryz.prog 159 #[vT cellT c, .pointer (some ⟨b, 0, none⟩)] G L R := by
 refine CallT.enter (args := _) Tryz.func159 rfl rfl (by kernel_rfl) rfl ?_
 refine WP.seq (WP.region ?_)
 refine RG.ot rfl (OT.box (cs := cellT.enc c) rfl rfl rfl fun b2 => ?_)
 refine RG.br rfl rfl rfl (RG.nil (WP.seq (WP.region (RG.pv rfl (PV.field rfl Fo115_0 rfl) (RG.pv rfl (PV.load1 rfl Sc9 rfl (Rd.blk rfl)) (RG.pv rfl (PV.load1 rfl Sc9 rfl (Rd.up hb)) (RG.pv rfl (PV.eqlS rfl rfl rfl) ?_)))))))
 refine RG.br rfl rfl rfl (RG.nil ?_)
 refine WP.ret ?_
 exact ⟨_, _, ResV.one rfl rfl, Cv.p, k⟩
theorem indexF_cell {v fv : Value} {xs : List (Cell)} {p : (Cell) → Bool} (h1 : Rs G L cellT v xs) (hf : ∀ i, i < xs.length → CB Tryz.prog G L fv [vT cellT (gd xs i)] (.bool (p (gd xs i)))) (k : R (vi (idxI p xs)) G L) : CallT Tryz.prog 158 #[v, fv] G L R := by
 refine CallT.bd h1 fun hb => ?_
 refine CallT.enter (args := _) Tryz.func158 rfl rfl (by kernel_rfl) rfl ?_
 refine WP.seq (WP.region (RG.mr rfl rfl rfl (RG.nil (WP.seq (WP.seq (WP.region (RG.pv rfl (PV.move (v := v) rfl rfl) ?_)))))))
 refine RG.pv rfl (PV.len (v := v) rfl Tryz.underlying33 rfl (SlF.r h1)) (RG.ml rfl rfl rfl (RG.nil (WP.block ?_)))
 refine WP.loop1 [0, 1, 7] (fun i => i ≤ xs.length ∧ ∀ j, j < i → p (gd xs j) = false) (fun i => [(8, vi i)]) (fun i => L) (fun i => xs.length - i) 0 ⟨by omega, fun j h => by omega⟩ ⟨rfl, trivial⟩ Cv.p ?_
 rintro i τ ⟨hi, hj⟩
 refine WP.seq (WP.region (RG.pv rfl (PV.lss rfl rfl rfl) (RG.nil (WP.seq ?_))))
 refine WP.cond rfl (fun h2 => ?_) (fun h2 => ?_)
 · have h2 := of_decide_eq_true h2
   refine WP.skip (WP.seq (WP.block (WP.seq (WP.region (RG.ml rfl rfl rfl (RG.mr rfl rfl rfl (RG.nil ?_)))))))
   refine WP.seq (WP.region (RG.pv rfl (PV.move (v := fv) rfl rfl) (RG.pv rfl (PV.move (v := v) rfl rfl) (RG.ml rfl rfl rfl (RG.pv rfl (PV.idxS (v := v) rfl Is33 rfl (SlF.r h1) rfl rfl (by omega)) (RG.pv rfl (PV.loadE rfl Ag115 rfl rfl (El.r h1 (getG (by omega)))) ?_))))))
   refine RG.callB (vs := [_]) rfl rfl rfl rfl (CB.up (hf i (by omega))) ?_
   refine RG.nil ?_
   refine WP.cond rfl (fun h3 => ?_) (fun h3 => ?_)
   · rw [idxI_at (by omega) h3 hj] at k
     refine WP.seq (WP.region (RG.ml rfl rfl rfl (RG.mr rfl rfl rfl (RG.nil ?_))))
     refine WP.ret ?_
     exact ⟨_, _, ResV.one rfl rfl, Cv.p, k⟩
   · have hj' : ∀ j, j < i + 1 → p (gd xs j) = false := fun j h => by
       by_cases c : j = i
       · rw [c]; exact h3
       · exact hj j (by omega)
     refine WP.skip (WP.region (RG.pv rfl (PV.add rfl rfl rfl (by omega)) (RG.ml rfl rfl rfl (RG.nil ?_))))
     exact ⟨rfl, i + 1, ⟨by omega, hj'⟩, ⟨rfl, trivial⟩, ⟨rfl, rfl, rfl, trivial⟩, Cv.p, by omega⟩
 · have h2 := of_decide_eq_false h2
   rw [idxI_none (fun j h => hj j (by omega))] at k
   refine WP.exit ?_
   refine WP.seq (WP.region (RG.mr rfl rfl rfl (RG.nil ?_)))
   refine WP.ret ?_
   exact ⟨_, _, ResV.one rfl rfl, Cv.p, k⟩
theorem named_i {l : Lib} {nm : ByteArray} (h1 : Rs G L cellT l.cells.v l.cells.xs) (k : R (vi (idxI (fun c : Cell => decide (c.name = nm)) l.cells.xs)) G L) : CallT Tryz.prog 77 #[vT libT l, .string nm] G L R := by
 refine CallT.enter (args := _) Tryz.func77 rfl rfl (by kernel_rfl) rfl ?_
 refine WP.seq (WP.region ?_)
 refine RG.ot rfl (OT.box (cs := libT.enc l) rfl rfl rfl fun b2 => ?_)
 refine RG.ot rfl (OT.box rfl rfl rfl fun b3 => ?_)
 refine RG.mr rfl rfl rfl (RG.nil (WP.seq (WP.region (RG.pv rfl (PV.field rfl Fo35_0 rfl) (RG.pv rfl (PV.load1 rfl Sc33 rfl (Rd.blk rfl)) (RG.pv rfl (PV.mkf1 rfl rfl) ?_))))))
 refine RG.callF (vs := [_, _]) rfl rfl En158 rfl (indexF_cell (Rs.up h1) (p := fun c => decide (c.name = nm)) (fun i hi => CB.mk1 En159 fun L' R c k => named1_s (Rd.cv (Rd.blk rfl) c) k) ?_)
 refine RG.mr rfl rfl rfl (RG.nil ?_)
 refine WP.ret ?_
 exact ⟨_, _, ResV.one rfl rfl, Cv.p, k⟩
theorem named_at {xs : List Cell} {i : Nat} (hi : i < xs.length) : decide (idxI (fun c : Cell => decide (c.name = (gd xs i).name)) xs = (i : Int)) = nameAt (erCls xs) i := by
 have hn : ∀ j, j < xs.length → (gd (erCls xs) j).name = (gd xs j).name := fun j hj => by rw [erCls_gd hj]; rfl
 by_cases h : ∀ j, j < i → (gd xs j).name ≠ (gd xs i).name
 · rw [idxI_at (i := i) hi (by simp) (fun j hj => by simpa using h j hj)]
   have : nameAt (erCls xs) i = true := by
     rw [nameAt, decide_eq_true_iff]
     intro j hj
     rw [hn j (by omega), hn i hi]; exact h j hj
   rw [this]; simp
 · have hx : nameAt (erCls xs) i = false := by
     rw [nameAt, decide_eq_false_iff_not]
     intro hh
     exact h fun j hj => by rw [← hn j (by omega), ← hn i hi]; exact hh j hj
   rw [hx, decide_eq_false_iff_not]
   intro e
   apply h
   intro j hj hq
   have hex : ∃ m, m ≤ j ∧ (gd xs m).name = (gd xs i).name ∧ ∀ l, l < m → (gd xs l).name ≠ (gd xs i).name := by
     induction j using Nat.strongRecOn with
     | ind j ih =>
       by_cases c : ∃ l, l < j ∧ (gd xs l).name = (gd xs i).name
       · obtain ⟨l, hl, hq2⟩ := c
         obtain ⟨m, a1, a2, a3⟩ := ih l hl (by omega) hq2
         exact ⟨m, by omega, a2, a3⟩
       · exact ⟨j, Nat.le_refl _, hq, fun l hl hh => c ⟨l, hl, hh⟩⟩
   obtain ⟨m, a1, a2, a3⟩ := hex
   rw [idxI_at (i := m) (by omega) (by simpa using a2) (fun l hl => by simpa using a3 l hl)] at e
   omega
theorem okLib_i {l : Lib} (hL : RLib G L l.cells.v l.cells.xs) (hlen : lenC (erCls l.cells.xs)) (k : R (.bool (okLib (erCls l.cells.xs))) G L) : CallT Tryz.prog 41 #[vT libT l] G L R := by
 have hE := erCls_len l.cells.xs
 refine CallT.bd hL.c fun hb => ?_
 refine CallT.enter (args := _) Tryz.func41 rfl rfl (by kernel_rfl) rfl ?_
 refine WP.seq (WP.region ?_)
 refine RG.ot rfl (OT.box (cs := libT.enc l) rfl rfl rfl fun b1 => ?_)
 refine RG.br rfl rfl rfl (RG.nil (WP.seq (WP.seq (WP.region (RG.pv rfl (PV.field rfl Fo35_0 rfl) (RG.pv rfl (PV.load1 rfl Sc33 rfl (Rd.blk rfl)) (RG.pv rfl (PV.len rfl Tryz.underlying33 rfl (SlF.r hL.c)) ?_)))))))
 refine RG.pv rfl (PV.lss rfl rfl rfl) (RG.bl rfl rfl rfl ?_)
 refine RG.gs rfl rfl rfl (fun hp => (PV.field rfl Fo35_0 rfl)) ?_
 refine RG.gs rfl rfl rfl (fun hp => (PV.load1 rfl Sc33 (gs_t hp) (Rd.blk rfl))) ?_
 refine RG.gs rfl rfl rfl (fun hp => (PV.len rfl Tryz.underlying33 (gs_t hp) (SlF.r hL.c))) ?_
 refine RG.gs rfl rfl rfl (fun hp => (PV.gtr rfl (gs_t hp) rfl)) ?_
 refine RG.pv rfl (PV.pickO rfl rfl rfl (fun hq => gs_t (geqF hq))) (RG.nil ?_)
 refine WP.cond rfl (fun h0 => ?_) (fun h0 => ?_)
 · have e : okLib (erCls l.cells.xs) = false := by
     simp at h0
     simp [okLib, hE]; omega
   rw [e] at k
   refine WP.seq (WP.region (RG.br rfl rfl rfl (RG.nil ?_)))
   refine WP.ret ?_
   exact ⟨_, _, ResV.one rfl rfl, Cv.p, k⟩
 · simp at h0
   refine WP.skip (WP.seq (WP.seq (WP.region (RG.pv rfl (PV.field rfl Fo35_0 rfl) (RG.pv rfl (PV.load1 rfl Sc33 rfl (Rd.blk rfl)) (RG.pv rfl (PV.len rfl Tryz.underlying33 rfl (SlF.r hL.c)) (RG.ml rfl rfl rfl ?_)))))))
   refine RG.nil (WP.block ?_)
   refine WP.loop1 [1, 16, 17] (fun i => i ≤ l.cells.xs.length ∧ ∀ j, j < i → cellAt (erCls l.cells.xs) j = true) (fun i => [(18, vi i)]) (fun i => blk b1 35 (libT.enc l) :: L) (fun i => l.cells.xs.length - i) 0 ⟨by omega, fun j h => by omega⟩ ⟨rfl, trivial⟩ Cv.p ?_
   rintro i τ ⟨hi, hj⟩
   refine WP.seq (WP.region (RG.pv rfl (PV.lss rfl rfl rfl) (RG.nil (WP.seq ?_))))
   refine WP.cond rfl (fun h2 => ?_) (fun h2 => ?_)
   · have h2 := of_decide_eq_true h2
     have h3 : i < l.cells.xs.length := by omega
     refine WP.skip (WP.seq (WP.block (WP.seq (WP.region (RG.ml rfl rfl rfl (RG.pv rfl (PV.idxS rfl Is33 rfl (SlF.r hL.c) rfl rfl (by omega)) (RG.pv rfl (PV.loadE rfl Ag115 rfl rfl (El.r hL.c (getG (by omega)))) ?_)))))))
     refine RG.ot rfl (OT.alloc rfl Zr115 fun b4 => ?_)
     refine RG.mr rfl rfl rfl ?_
     refine RG.ot rfl (OT.storeW (vs := [.string _, _, _, _]) rfl Sz115 rfl rfl (Cl.c rfl) rfl rfl (hL.one h3) ?_)
     refine RG.nil (WP.seq (WP.region (RG.pv rfl (PV.loadW rfl Ag115 rfl rfl) (RG.ml rfl rfl rfl ?_))))
     refine RG.callF (vs := [_, _]) rfl rfl En76 rfl (okCell_i (by omega) (hL.sa (by omega)).up (hL.la (by omega)).up (hL.na (by omega)).up (hlen.one (by omega)).1 (hlen.one (by omega)).2 ?_)
     refine RG.pv rfl (PV.not rfl rfl) (RG.bl rfl rfl rfl ?_)
     refine RG.gs rfl rfl rfl (fun hp => (PV.loadW rfl Ag35 rfl rfl)) ?_
     refine RG.gs rfl rfl rfl (fun hp => (PV.field rfl Fo115_0 rfl)) ?_
     refine RG.gs rfl rfl rfl (fun hp => (PV.load1 rfl Sc9 (gs_t hp) (Rd.blk rfl))) ?_
     refine RG.gsC rfl rfl rfl rfl En77 (fun hp => ⟨_, (acons (gs_t hp) (acons (gs_t hp) anil)), named_i hL.c.up ⟨rfl, rfl, rfl⟩⟩) ?_
     refine RG.gs rfl rfl rfl (fun hp => (PV.mvI (.inl rfl) rfl)) ?_
     refine RG.gs rfl rfl rfl (fun hp => (PV.neq rfl (gs_t hp) (gs_t hp))) ?_
     refine RG.pv rfl (PV.pickO rfl rfl rfl (fun hq => gs_t (geqF hq))) (RG.nil ?_)
     refine WP.cond rfl (fun h4 => ?_) (fun h4 => ?_)
     · have e : cellAt (erCls l.cells.xs) i = false := by
         simp [cellAt, erCls_gd h3, ← named_at h3] at h4 ⊢
         grind
       rw [okLib_false (by omega) e] at k
       refine WP.seq (WP.region (RG.br rfl rfl rfl (RG.nil ?_)))
       refine WP.ret ?_
       exact ⟨_, _, ResV.one rfl rfl, Cv.p, k⟩
     · have e : cellAt (erCls l.cells.xs) i = true := by
         simp [cellAt, erCls_gd h3, ← named_at h3] at h4 ⊢
         grind
       have hj' : ∀ j, j < i + 1 → cellAt (erCls l.cells.xs) j = true := fun j h => by
         by_cases c : j = i
         · rw [c]; exact e
         · exact hj j (by omega)
       refine WP.skip (WP.region (RG.pv rfl (PV.add rfl rfl rfl (by omega)) (RG.ml rfl rfl rfl (RG.nil ?_))))
       exact ⟨rfl, i + 1, ⟨by omega, hj'⟩, ⟨rfl, trivial⟩, ⟨rfl, rfl, rfl, trivial⟩, Cv.p, by omega⟩
   · have h2 := of_decide_eq_false h2
     rw [okLib_all (by omega) (by omega) (fun j h => hj j (by omega))] at k
     refine WP.exit ?_
     refine WP.seq (WP.region (RG.br rfl rfl rfl (RG.nil ?_)))
     refine WP.ret ?_
     exact ⟨_, _, ResV.one rfl rfl, Cv.p, k⟩
theorem l09Rect_r {r : Rect} (k : R (.bool (validRect r)) G L) : CallT Tryz.prog 143 #[vrect r] G L R := by
 refine CallT.enter (args := _) Tryz.func143 rfl rfl (by kernel_rfl) rfl ?_
 refine WP.seq (WP.region ?_)
 refine RG.ot rfl (OT.box (cs := rectT.enc r) rfl rfl rfl fun b1 => ?_)
 refine RG.br rfl rfl rfl (RG.nil (WP.seq (WP.region (RG.pv rfl (PV.field rfl Fo91_0 rfl) (RG.pv rfl (PV.load1 rfl Sc2 rfl (Rd.blk rfl)) (RG.pv rfl (PV.leq rfl rfl rfl) (RG.bl rfl rfl rfl ?_)))))))
 refine RG.gs rfl rfl rfl (fun hp => (PV.field rfl Fo91_0 rfl)) ?_
 refine RG.gs rfl rfl rfl (fun hp => (PV.load1 rfl Sc2 (gs_t hp) (Rd.blk rfl))) ?_
 refine RG.gs rfl rfl rfl (fun hp => (PV.field rfl Fo91_2 rfl)) ?_
 refine RG.gs rfl rfl rfl (fun hp => (PV.load1 rfl Sc2 (gs_t hp) (Rd.blk rfl))) ?_
 refine RG.gs rfl rfl rfl (fun hp => (PV.lss rfl (gs_t hp) (gs_t hp))) ?_
 refine RG.pv rfl (PV.pickA rfl rfl (fun hq => gs_t (geqT hq)) rfl) (RG.bl rfl rfl rfl ?_)
 refine RG.gs rfl rfl rfl (fun hp => (PV.field rfl Fo91_2 rfl)) ?_
 refine RG.gs rfl rfl rfl (fun hp => (PV.load1 rfl Sc2 (gs_t hp) (Rd.blk rfl))) ?_
 refine RG.gs rfl rfl rfl (fun hp => (PV.leq rfl (gs_t hp) rfl)) ?_
 refine RG.pv rfl (PV.pickA rfl rfl (fun hq => gs_t (geqT hq)) rfl) (RG.bl rfl rfl rfl ?_)
 refine RG.gs rfl rfl rfl (fun hp => (PV.field rfl Fo91_1 rfl)) ?_
 refine RG.gs rfl rfl rfl (fun hp => (PV.load1 rfl Sc2 (gs_t hp) (Rd.blk rfl))) ?_
 refine RG.gs rfl rfl rfl (fun hp => (PV.leq rfl rfl (gs_t hp))) ?_
 refine RG.pv rfl (PV.pickA rfl rfl (fun hq => gs_t (geqT hq)) rfl) (RG.bl rfl rfl rfl ?_)
 refine RG.gs rfl rfl rfl (fun hp => (PV.field rfl Fo91_1 rfl)) ?_
 refine RG.gs rfl rfl rfl (fun hp => (PV.load1 rfl Sc2 (gs_t hp) (Rd.blk rfl))) ?_
 refine RG.gs rfl rfl rfl (fun hp => (PV.field rfl Fo91_3 rfl)) ?_
 refine RG.gs rfl rfl rfl (fun hp => (PV.load1 rfl Sc2 (gs_t hp) (Rd.blk rfl))) ?_
 refine RG.gs rfl rfl rfl (fun hp => (PV.lss rfl (gs_t hp) (gs_t hp))) ?_
 refine RG.pv rfl (PV.pickA rfl rfl (fun hq => gs_t (geqT hq)) rfl) (RG.bl rfl rfl rfl ?_)
 refine RG.gs rfl rfl rfl (fun hp => (PV.field rfl Fo91_3 rfl)) ?_
 refine RG.gs rfl rfl rfl (fun hp => (PV.load1 rfl Sc2 (gs_t hp) (Rd.blk rfl))) ?_
 refine RG.gs rfl rfl rfl (fun hp => (PV.leq rfl (gs_t hp) rfl)) ?_
 refine RG.pv rfl (PV.pickA rfl rfl (fun hq => gs_t (geqT hq)) rfl) (RG.br rfl rfl rfl (RG.nil ?_))
 refine WP.ret ?_
 exact ⟨_, _, ResV.one rfl rfl, Cv.p, k⟩
theorem l09Trans_r {t : Trans} (k : R (.bool (validT t)) G L) : CallT Tryz.prog 118 #[vtrans t] G L R := by
 refine CallT.enter (args := _) Tryz.func118 rfl rfl (by kernel_rfl) rfl ?_
 refine WP.seq (WP.region ?_)
 refine RG.ot rfl (OT.box (cs := transT.enc t) rfl rfl rfl fun b1 => ?_)
 refine RG.br rfl rfl rfl (RG.nil (WP.seq (WP.region (RG.pv rfl (PV.field rfl Fo95_0 rfl) (RG.pv rfl (PV.load1 rfl Sc2 rfl (Rd.blk rfl)) ?_)))))
 refine RG.callF (vs := [_, _, _]) rfl rfl En196 rfl (l09In_s ?_)
 refine RG.bl rfl rfl rfl ?_
 refine RG.gs rfl rfl rfl (fun hp => (PV.field rfl Fo95_1 rfl)) ?_
 refine RG.gs rfl rfl rfl (fun hp => (PV.load1 rfl Sc2 (gs_t hp) (Rd.blk rfl))) ?_
 refine RG.gsC rfl rfl rfl rfl En196 (fun hp => ⟨_, (acons (gs_t hp) (acons rfl (acons rfl anil))), l09In_s ⟨rfl, rfl, rfl⟩⟩) ?_
 refine RG.pv rfl (PV.pickA rfl rfl (fun hq => gs_t (geqT hq)) rfl) (RG.bl rfl rfl rfl ?_)
 refine RG.gs rfl rfl rfl (fun hp => (PV.field rfl Fo95_2 rfl)) ?_
 refine RG.gs rfl rfl rfl (fun hp => (PV.load1 rfl Sc2 (gs_t hp) (Rd.blk rfl))) ?_
 refine RG.gsC rfl rfl rfl rfl En196 (fun hp => ⟨_, (acons (gs_t hp) (acons rfl (acons rfl anil))), l09In_s ⟨rfl, rfl, rfl⟩⟩) ?_
 refine RG.pv rfl (PV.pickA rfl rfl (fun hq => gs_t (geqT hq)) rfl) (RG.br rfl rfl rfl (RG.nil ?_))
 refine WP.ret ?_
 have e : validT t = ((within t.o 0 7 && within t.x (-80) 80) && within t.y (-80) 80) := (Bool.and_assoc _ _ _).symm
 rw [e] at k
 exact ⟨_, _, ResV.one rfl rfl, Cv.p, k⟩
theorem okSh_r {s : Shape} (k : R (.bool (okSh s)) G L) : CallT Tryz.prog 138 #[vT shapeT s] G L R := by
 refine CallT.enter (args := _) Tryz.func138 rfl rfl (by kernel_rfl) rfl ?_
 refine WP.seq (WP.region ?_)
 refine RG.ot rfl (OT.box (cs := shapeT.enc s) rfl rfl rfl fun b1 => ?_)
 refine RG.br rfl rfl rfl (RG.nil (WP.seq (WP.region (RG.pv rfl (PV.field rfl Fo155_0 rfl) (RG.pv rfl (PV.load1 rfl Sc2 rfl (Rd.blk rfl)) ?_)))))
 refine RG.callF (vs := [_]) rfl rfl En212 rfl (l09Layer_s ?_)
 refine RG.bl rfl rfl rfl ?_
 refine RG.gs rfl rfl rfl (fun hp => (PV.field rfl Fo155_1 rfl)) ?_
 refine RG.gs rfl rfl rfl (fun hp => (PV.loadB (vs := [_, _, _, _]) rfl Ag91 (gs_t hp) rfl rfl)) ?_
 refine RG.gsC rfl rfl rfl rfl En143 (fun hp => ⟨_, (acons (gs_t hp) anil), l09Rect_r ⟨rfl, rfl, rfl⟩⟩) ?_
 refine RG.pv rfl (PV.pickA rfl rfl (fun hq => gs_t (geqT hq)) rfl) (RG.br rfl rfl rfl (RG.nil ?_))
 refine WP.ret ?_
 exact ⟨_, _, ResV.one rfl rfl, Cv.p, k⟩
theorem okIn_r {n : Inst} {k0 : Int} (hk : 0 ≤ k0 ∧ k0 ≤ 1000) (k : R (.bool (okIn k0 n)) G L) : CallT Tryz.prog 140 #[vT instT n, vi k0] G L R := by
 refine CallT.enter (args := _) Tryz.func140 rfl rfl (by kernel_rfl) rfl ?_
 refine WP.seq (WP.region ?_)
 refine RG.ot rfl (OT.box (cs := instT.enc n) rfl rfl rfl fun b2 => ?_)
 refine RG.br rfl rfl rfl (RG.nil (WP.seq (WP.seq (WP.region (RG.pv rfl (PV.field rfl Fo173_0 rfl) (RG.pv rfl (PV.load1 rfl Sc2 rfl (Rd.blk rfl)) (RG.ml rfl rfl rfl ?_)))))))
 refine RG.pv rfl (PV.sub rfl rfl rfl (by omega)) ?_
 refine RG.callF (vs := [_, _, _]) rfl rfl En196 rfl (l09In_s ?_)
 refine RG.pv rfl (PV.not rfl rfl) (RG.bl rfl rfl rfl ?_)
 refine RG.gs rfl rfl rfl (fun hp => (PV.field rfl Fo173_1 rfl)) ?_
 refine RG.gs rfl rfl rfl (fun hp => (PV.loadB (vs := [_, _, _]) rfl Ag95 (gs_t hp) rfl rfl)) ?_
 refine RG.gsC rfl rfl rfl rfl En118 (fun hp => ⟨_, (acons (gs_t hp) anil), l09Trans_r ⟨rfl, rfl, rfl⟩⟩) ?_
 refine RG.gs rfl rfl rfl (fun hp => (PV.not rfl (gs_t hp))) ?_
 refine RG.pv rfl (PV.pickO rfl rfl rfl (fun hq => gs_t (geqF hq))) (RG.bl rfl rfl rfl ?_)
 refine RG.gs rfl rfl rfl (fun hp => (PV.field rfl Fo173_2 rfl)) ?_
 refine RG.gs rfl rfl rfl (fun hp => (PV.load1 rfl Sc2 (gs_t hp) (Rd.blk rfl))) ?_
 refine RG.gsC rfl rfl rfl rfl En196 (fun hp => ⟨_, (acons (gs_t hp) (acons rfl (acons rfl anil))), l09In_s ⟨rfl, rfl, rfl⟩⟩) ?_
 refine RG.gs rfl rfl rfl (fun hp => (PV.not rfl (gs_t hp))) ?_
 refine RG.pv rfl (PV.pickO rfl rfl rfl (fun hq => gs_t (geqF hq))) (RG.bl rfl rfl rfl ?_)
 refine RG.gs rfl rfl rfl (fun hp => (PV.field rfl Fo173_3 rfl)) ?_
 refine RG.gs rfl rfl rfl (fun hp => (PV.load1 rfl Sc2 (gs_t hp) (Rd.blk rfl))) ?_
 refine RG.gsC rfl rfl rfl rfl En196 (fun hp => ⟨_, (acons (gs_t hp) (acons rfl (acons rfl anil))), l09In_s ⟨rfl, rfl, rfl⟩⟩) ?_
 refine RG.gs rfl rfl rfl (fun hp => (PV.not rfl (gs_t hp))) ?_
 refine RG.pv rfl (PV.pickO rfl rfl rfl (fun hq => gs_t (geqF hq))) (RG.nil ?_)
 refine WP.cond rfl (fun h1 => ?_) (fun h1 => ?_)
 · have e : okIn k0 n = false := by
     simp [okIn] at h1 ⊢; grind
   rw [e] at k
   refine WP.seq (WP.region (RG.br rfl rfl rfl (RG.nil ?_)))
   refine WP.ret ?_
   exact ⟨_, _, ResV.one rfl rfl, Cv.p, k⟩
 · refine WP.skip ?_
   refine WP.seq (WP.seq (WP.region (RG.pv rfl (PV.field rfl Fo173_4 rfl) (RG.pv rfl (PV.load1 rfl Sc2 rfl (Rd.blk rfl)) ?_))))
   refine RG.callF (vs := [_, _, _]) rfl rfl En196 rfl (l09In_s ?_)
   refine RG.pv rfl (PV.not rfl rfl) (RG.bl rfl rfl rfl ?_)
   refine RG.gs rfl rfl rfl (fun hp => (PV.field rfl Fo173_5 rfl)) ?_
   refine RG.gs rfl rfl rfl (fun hp => (PV.load1 rfl Sc2 (gs_t hp) (Rd.blk rfl))) ?_
   refine RG.gsC rfl rfl rfl rfl En196 (fun hp => ⟨_, (acons (gs_t hp) (acons rfl (acons rfl anil))), l09In_s ⟨rfl, rfl, rfl⟩⟩) ?_
   refine RG.gs rfl rfl rfl (fun hp => (PV.not rfl (gs_t hp))) ?_
   refine RG.pv rfl (PV.pickO rfl rfl rfl (fun hq => gs_t (geqF hq))) (RG.nil ?_)
   refine WP.cond rfl (fun h2 => ?_) (fun h2 => ?_)
   · have e : okIn k0 n = false := by
       simp [okIn] at h2 ⊢; grind
     rw [e] at k
     refine WP.seq (WP.region (RG.br rfl rfl rfl (RG.nil ?_)))
     refine WP.ret ?_
     exact ⟨_, _, ResV.one rfl rfl, Cv.p, k⟩
   · have e : okIn k0 n = ((decide (1 < n.cols) || decide (n.sx = 0)) && (decide (1 < n.rows) || decide (n.sy = 0))) := by
       simp [okIn] at h1 h2 ⊢; grind
     rw [e] at k
     refine WP.skip (WP.seq (WP.region (RG.pv rfl (PV.field rfl Fo173_2 rfl) (RG.pv rfl (PV.load1 rfl Sc2 rfl (Rd.blk rfl)) (RG.pv rfl (PV.gtr rfl rfl rfl) (RG.bl rfl rfl rfl ?_))))))
     refine RG.gs rfl rfl rfl (fun hp => (PV.field rfl Fo173_4 rfl)) ?_
     refine RG.gs rfl rfl rfl (fun hp => (PV.load1 rfl Sc2 (gs_t hp) (Rd.blk rfl))) ?_
     refine RG.gs rfl rfl rfl (fun hp => (PV.eql rfl (gs_t hp) rfl)) ?_
     refine RG.pv rfl (PV.pickO rfl rfl rfl (fun hq => gs_t (geqF hq))) (RG.bl rfl rfl rfl ?_)
     refine RG.gs rfl rfl rfl (fun hp => (PV.field rfl Fo173_3 rfl)) ?_
     refine RG.gs rfl rfl rfl (fun hp => (PV.load1 rfl Sc2 (gs_t hp) (Rd.blk rfl))) ?_
     refine RG.gs rfl rfl rfl (fun hp => (PV.gtr rfl (gs_t hp) rfl)) ?_
     refine RG.gs rfl rfl rfl (fun hp => (PV.mvB (.inl rfl) (gs_t hp))) ?_
     refine RG.gs2 rfl rfl rfl (fun hp => (PV.field rfl Fo173_5 rfl)) ?_
     refine RG.gs2 rfl rfl rfl (fun hp => (PV.load1 rfl Sc2 (gs_t hp) (Rd.blk rfl))) ?_
     refine RG.gs2 rfl rfl rfl (fun hp => (PV.eql rfl (gs_t hp) rfl)) ?_
     refine RG.gs rfl rfl rfl (fun hp => (PV.pickO rfl (gs_t hp) rfl (fun hq => gs_t (gandF hp hq)))) ?_
     refine RG.pv rfl (PV.pickA rfl rfl (fun hq => gs_t (geqT hq)) rfl) (RG.br rfl rfl rfl (RG.nil ?_))
     refine WP.ret ?_
     exact ⟨_, _, ResV.one rfl rfl, Cv.p, k⟩
theorem okCell_r {c : Cell} {k0 : Int} (hk : 0 ≤ k0 ∧ k0 ≤ 1000) (h1 : Rs G L shapeT c.shapes.v c.shapes.xs) (h2 : Rs G L labelT c.labels.v c.labels.xs) (h3 : Rs G L instT c.insts.v c.insts.xs) (hs : c.name.size ≤ 9223372036854775807) (hlen : lenL c.labels.xs)
   (k : R (.bool (okCell k0 (erCl c))) G L) : CallT Tryz.prog 70 #[vT cellT c, vi k0] G L R := by
 have any0 : ∀ {α : Type} [Inhabited α] {p : α → Bool} {xs : List α}, (∀ j, j < xs.length → p (gd xs j) = true) → (xs.any fun a => !p a) = false := fun {α} _ {p xs} h => by
   rw [List.any_eq_false]; intro a ha; obtain ⟨j, hj, rfl⟩ := List.getElem_of_mem ha; have := h j hj; rw [gd_eq hj] at this; simp [this]
 have any1 : ∀ {α : Type} [Inhabited α] {p : α → Bool} {xs : List α} {j : Nat}, j < xs.length → p (gd xs j) = false → (xs.any fun a => !p a) = true := fun {α} _ {p xs j} h e =>
   List.any_eq_true.2 ⟨gd xs j, gd_mem h, by simp [e]⟩
 refine CallT.bd h1 fun hb1 => ?_
 refine CallT.bd h2 fun hb2 => ?_
 refine CallT.bd h3 fun hb3 => ?_
 refine CallT.enter (args := _) Tryz.func70 rfl rfl (by kernel_rfl) rfl ?_
 refine WP.seq (WP.region ?_)
 refine RG.ot rfl (OT.box (cs := cellT.enc c) rfl rfl rfl fun b2 => ?_)
 refine RG.br rfl rfl rfl (RG.nil (WP.seq (WP.seq (WP.region (RG.pv rfl (PV.field rfl Fo115_0 rfl) (RG.pv rfl (PV.load1 rfl Sc9 rfl (Rd.blk rfl)) ?_))))))
 refine RG.callF (vs := [_]) rfl rfl En137 rfl (isName_r hs ?_)
 refine RG.pv rfl (PV.not rfl rfl) (RG.bl rfl rfl rfl ?_)
 refine RG.gs rfl rfl rfl (fun hp => (PV.field rfl Fo115_1 rfl)) ?_
 refine RG.gs rfl rfl rfl (fun hp => (PV.load1 rfl Sc111 (gs_t hp) (Rd.blk rfl))) ?_
 refine RG.gs rfl rfl rfl (fun hp => (PV.len rfl Tryz.underlying111 (gs_t hp) (SlF.r h1))) ?_
 refine RG.gs rfl rfl rfl (fun hp => (PV.gtr rfl (gs_t hp) rfl)) ?_
 refine RG.pv rfl (PV.pickO rfl rfl rfl (fun hq => gs_t (geqF hq))) (RG.bl rfl rfl rfl ?_)
 refine RG.gs rfl rfl rfl (fun hp => (PV.field rfl Fo115_2 rfl)) ?_
 refine RG.gs rfl rfl rfl (fun hp => (PV.load1 rfl Sc112 (gs_t hp) (Rd.blk rfl))) ?_
 refine RG.gs rfl rfl rfl (fun hp => (PV.len rfl Tryz.underlying112 (gs_t hp) (SlF.r h2))) ?_
 refine RG.gs rfl rfl rfl (fun hp => (PV.gtr rfl (gs_t hp) rfl)) ?_
 refine RG.pv rfl (PV.pickO rfl rfl rfl (fun hq => gs_t (geqF hq))) (RG.bl rfl rfl rfl ?_)
 refine RG.gs rfl rfl rfl (fun hp => (PV.field rfl Fo115_3 rfl)) ?_
 refine RG.gs rfl rfl rfl (fun hp => (PV.load1 rfl Sc113 (gs_t hp) (Rd.blk rfl))) ?_
 refine RG.gs rfl rfl rfl (fun hp => (PV.len rfl Tryz.underlying113 (gs_t hp) (SlF.r h3))) ?_
 refine RG.gs rfl rfl rfl (fun hp => (PV.gtr rfl (gs_t hp) rfl)) ?_
 refine RG.pv rfl (PV.pickO rfl rfl rfl (fun hq => gs_t (geqF hq))) (RG.nil ?_)
 refine WP.cond rfl (fun h4 => ?_) (fun h4 => ?_)
 · have e : okCell k0 (erCl c) = false := by
     simp [okCell, erCl] at h4 ⊢
     grind
   rw [e] at k
   refine WP.seq (WP.region (RG.br rfl rfl rfl (RG.nil ?_)))
   refine WP.ret ?_
   exact ⟨_, _, ResV.one rfl rfl, Cv.p, k⟩
 · have e0 : okCell k0 (erCl c) = (!(c.shapes.xs.any fun s => !okSh s) && !(c.labels.xs.any fun l => !validLb l) && !(c.insts.xs.any fun n => !okIn k0 n)) := by
     simp [okCell, erCl] at h4 ⊢
     grind
   rw [e0] at k
   refine WP.skip (WP.seq (WP.seq (WP.region (RG.mr rfl rfl rfl (RG.nil (WP.block ?_))))))
   refine WP.loop1 [1, 2] (fun i => i ≤ c.shapes.xs.length ∧ ∀ j, j < i → okSh (gd c.shapes.xs j) = true) (fun i => [(5, vi i)]) (fun i => blk b2 115 (cellT.enc c) :: L) (fun i => c.shapes.xs.length - i) 0 ⟨by omega, fun j h => by omega⟩ ⟨rfl, trivial⟩ Cv.p ?_
   rintro i τ ⟨hi, hj⟩
   refine WP.seq (WP.seq (WP.region (RG.ml rfl rfl rfl (RG.pv rfl (PV.field rfl Fo115_1 rfl) (RG.pv rfl (PV.load1 rfl Sc111 rfl (Rd.blk rfl)) (RG.pv rfl (PV.len rfl Tryz.underlying111 rfl (SlF.r h1)) (RG.pv rfl (PV.lss rfl rfl rfl) ?_)))))))
   refine RG.nil ?_
   refine WP.cond rfl (fun h5 => ?_) (fun h5 => ?_)
   · have h5 := of_decide_eq_true h5
     refine WP.skip (WP.seq (WP.block (WP.seq (WP.region (RG.pv rfl (PV.field rfl Fo115_1 rfl) (RG.pv rfl (PV.load1 rfl Sc111 rfl (Rd.blk rfl)) (RG.ml rfl rfl rfl ?_)))))))
     refine RG.pv rfl (PV.idxS rfl Is111 rfl (SlF.r h1) rfl rfl (by omega)) (RG.pv rfl (PV.loadE rfl Ag155 rfl rfl (El.r h1 (getG (by omega)))) ?_)
     refine RG.callF (vs := [_]) rfl rfl En138 rfl (okSh_r ?_)
     refine RG.pv rfl (PV.not rfl rfl) (RG.nil ?_)
     refine WP.cond rfl (fun h6 => ?_) (fun h6 => ?_)
     · rw [any1 (j := i) (by omega) (by simpa using h6)] at k
       refine WP.seq (WP.region (RG.br rfl rfl rfl (RG.nil ?_)))
       refine WP.ret ?_
       exact ⟨_, _, ResV.one rfl rfl, Cv.p, k⟩
     · have hj' : ∀ j, j < i + 1 → okSh (gd c.shapes.xs j) = true := fun j h => by
         by_cases q : j = i
         · rw [q]; simpa using h6
         · exact hj j (by omega)
       refine WP.skip (WP.region (RG.ml rfl rfl rfl (RG.pv rfl (PV.add rfl rfl rfl (by omega)) (RG.mr rfl rfl rfl (RG.nil ?_)))))
       exact ⟨rfl, i + 1, ⟨by omega, hj'⟩, ⟨rfl, trivial⟩, ⟨rfl, rfl, trivial⟩, Cv.p, by omega⟩
   · have h5 := of_decide_eq_false h5
     rw [any0 (fun j h => hj j (by omega))] at k
     refine WP.exit ?_
     refine WP.seq (WP.seq (WP.region (RG.mr rfl rfl rfl (RG.nil (WP.block ?_)))))
     refine WP.loop1 [1, 2] (fun i => i ≤ c.labels.xs.length ∧ ∀ j, j < i → validLb (gd c.labels.xs j) = true) (fun i => [(6, vi i)]) (fun i => blk b2 115 (cellT.enc c) :: L) (fun i => c.labels.xs.length - i) 0 ⟨by omega, fun j h => by omega⟩ ⟨rfl, trivial⟩ Cv.p ?_
     rintro i τ ⟨hi, hj⟩
     refine WP.seq (WP.seq (WP.region (RG.ml rfl rfl rfl (RG.pv rfl (PV.field rfl Fo115_2 rfl) (RG.pv rfl (PV.load1 rfl Sc112 rfl (Rd.blk rfl)) (RG.pv rfl (PV.len rfl Tryz.underlying112 rfl (SlF.r h2)) (RG.pv rfl (PV.lss rfl rfl rfl) ?_)))))))
     refine RG.nil ?_
     refine WP.cond rfl (fun h5 => ?_) (fun h5 => ?_)
     · have h5 := of_decide_eq_true h5
       refine WP.skip (WP.seq (WP.block (WP.seq (WP.region (RG.pv rfl (PV.field rfl Fo115_2 rfl) (RG.pv rfl (PV.load1 rfl Sc112 rfl (Rd.blk rfl)) (RG.ml rfl rfl rfl ?_)))))))
       refine RG.pv rfl (PV.idxS rfl Is112 rfl (SlF.r h2) rfl rfl (by omega)) (RG.pv rfl (PV.loadE rfl Ag191 rfl rfl (El.r h2 (getG (by omega)))) ?_)
       refine RG.callF (vs := [_]) rfl rfl En139 rfl (validLb_r (hlen _ (by omega)) ?_)
       refine RG.pv rfl (PV.not rfl rfl) (RG.nil ?_)
       refine WP.cond rfl (fun h6 => ?_) (fun h6 => ?_)
       · rw [any1 (p := validLb) (j := i) (by omega) (by simpa using h6)] at k
         refine WP.seq (WP.region (RG.br rfl rfl rfl (RG.nil ?_)))
         refine WP.ret ?_
         exact ⟨_, _, ResV.one rfl rfl, Cv.p, k⟩
       · have hj' : ∀ j, j < i + 1 → validLb (gd c.labels.xs j) = true := fun j h => by
           by_cases q : j = i
           · rw [q]; simpa using h6
           · exact hj j (by omega)
         refine WP.skip (WP.region (RG.ml rfl rfl rfl (RG.pv rfl (PV.add rfl rfl rfl (by omega)) (RG.mr rfl rfl rfl (RG.nil ?_)))))
         exact ⟨rfl, i + 1, ⟨by omega, hj'⟩, ⟨rfl, trivial⟩, ⟨rfl, rfl, trivial⟩, Cv.p, by omega⟩
     · have h5 := of_decide_eq_false h5
       rw [any0 (p := validLb) (fun j h => hj j (by omega))] at k
       refine WP.exit ?_
       refine WP.seq (WP.seq (WP.region (RG.mr rfl rfl rfl (RG.nil (WP.block ?_)))))
       refine WP.loop1 [1, 2] (fun i => i ≤ c.insts.xs.length ∧ ∀ j, j < i → okIn k0 (gd c.insts.xs j) = true) (fun i => [(7, vi i)]) (fun i => blk b2 115 (cellT.enc c) :: L) (fun i => c.insts.xs.length - i) 0 ⟨by omega, fun j h => by omega⟩ ⟨rfl, trivial⟩ Cv.p ?_
       rintro i τ ⟨hi, hj⟩
       refine WP.seq (WP.seq (WP.region (RG.ml rfl rfl rfl (RG.pv rfl (PV.field rfl Fo115_3 rfl) (RG.pv rfl (PV.load1 rfl Sc113 rfl (Rd.blk rfl)) (RG.pv rfl (PV.len rfl Tryz.underlying113 rfl (SlF.r h3)) (RG.pv rfl (PV.lss rfl rfl rfl) ?_)))))))
       refine RG.nil ?_
       refine WP.cond rfl (fun h5 => ?_) (fun h5 => ?_)
       · have h5 := of_decide_eq_true h5
         refine WP.skip (WP.seq (WP.block (WP.seq (WP.region (RG.pv rfl (PV.field rfl Fo115_3 rfl) (RG.pv rfl (PV.load1 rfl Sc113 rfl (Rd.blk rfl)) (RG.ml rfl rfl rfl ?_)))))))
         refine RG.pv rfl (PV.idxS rfl Is113 rfl (SlF.r h3) rfl rfl (by omega)) (RG.pv rfl (PV.loadE rfl Ag173 rfl rfl (El.r h3 (getG (by omega)))) (RG.ml rfl rfl rfl ?_))
         refine RG.callF (vs := [_, _]) rfl rfl En140 rfl (okIn_r hk ?_)
         refine RG.pv rfl (PV.not rfl rfl) (RG.nil ?_)
         refine WP.cond rfl (fun h6 => ?_) (fun h6 => ?_)
         · rw [any1 (p := okIn k0) (j := i) (by omega) (by simpa using h6)] at k
           refine WP.seq (WP.region (RG.br rfl rfl rfl (RG.nil ?_)))
           refine WP.ret ?_
           exact ⟨_, _, ResV.one rfl rfl, Cv.p, k⟩
         · have hj' : ∀ j, j < i + 1 → okIn k0 (gd c.insts.xs j) = true := fun j h => by
             by_cases q : j = i
             · rw [q]; simpa using h6
             · exact hj j (by omega)
           refine WP.skip (WP.region (RG.ml rfl rfl rfl (RG.pv rfl (PV.add rfl rfl rfl (by omega)) (RG.mr rfl rfl rfl (RG.nil ?_)))))
           exact ⟨rfl, i + 1, ⟨by omega, hj'⟩, ⟨rfl, trivial⟩, ⟨rfl, rfl, trivial⟩, Cv.p, by omega⟩
       · have h5 := of_decide_eq_false h5
         rw [any0 (p := okIn k0) (fun j h => hj j (by omega))] at k
         refine WP.exit ?_
         refine WP.seq (WP.region (RG.br rfl rfl rfl (RG.nil ?_)))
         refine WP.ret ?_
         exact ⟨_, _, ResV.one rfl rfl, Cv.p, k⟩
theorem okLib_r {l : Lib} (hL : RLib G L l.cells.v l.cells.xs) (hlen : lenC (erCls l.cells.xs)) (k : R (.bool (okLib (erCls l.cells.xs))) G L) : CallT Tryz.prog 35 #[vT libT l] G L R := by
 have hE := erCls_len l.cells.xs
 have hn : ∀ j, j < l.cells.xs.length → (gd (erCls l.cells.xs) j).name = (gd l.cells.xs j).name := fun j hj => by rw [erCls_gd hj]; rfl
 refine CallT.bd hL.c fun hb => ?_
 refine CallT.enter (args := _) Tryz.func35 rfl rfl (by kernel_rfl) rfl ?_
 refine WP.seq (WP.region ?_)
 refine RG.ot rfl (OT.box (cs := libT.enc l) rfl rfl rfl fun b1 => ?_)
 refine RG.br rfl rfl rfl (RG.nil (WP.seq (WP.seq (WP.region (RG.pv rfl (PV.field rfl Fo35_0 rfl) (RG.pv rfl (PV.load1 rfl Sc33 rfl (Rd.blk rfl)) (RG.pv rfl (PV.len rfl Tryz.underlying33 rfl (SlF.r hL.c)) ?_)))))))
 refine RG.pv rfl (PV.lss rfl rfl rfl) (RG.bl rfl rfl rfl ?_)
 refine RG.gs rfl rfl rfl (fun hp => (PV.field rfl Fo35_0 rfl)) ?_
 refine RG.gs rfl rfl rfl (fun hp => (PV.load1 rfl Sc33 (gs_t hp) (Rd.blk rfl))) ?_
 refine RG.gs rfl rfl rfl (fun hp => (PV.len rfl Tryz.underlying33 (gs_t hp) (SlF.r hL.c))) ?_
 refine RG.gs rfl rfl rfl (fun hp => (PV.gtr rfl (gs_t hp) rfl)) ?_
 refine RG.pv rfl (PV.pickO rfl rfl rfl (fun hq => gs_t (geqF hq))) (RG.nil ?_)
 refine WP.cond rfl (fun h0 => ?_) (fun h0 => ?_)
 · have e : okLib (erCls l.cells.xs) = false := by
     simp at h0
     simp [okLib, hE]; omega
   rw [e] at k
   refine WP.seq (WP.region (RG.br rfl rfl rfl (RG.nil ?_)))
   refine WP.ret ?_
   exact ⟨_, _, ResV.one rfl rfl, Cv.p, k⟩
 · simp at h0
   refine WP.skip (WP.seq (WP.seq (WP.region (RG.mr rfl rfl rfl (RG.nil (WP.block ?_))))))
   refine WP.loop1 [1] (fun i => i ≤ l.cells.xs.length ∧ ∀ j, j < i → cellAt (erCls l.cells.xs) j = true) (fun i => [(3, vi i)]) (fun i => blk b1 35 (libT.enc l) :: L) (fun i => l.cells.xs.length - i) 0 ⟨by omega, fun j h => by omega⟩ ⟨rfl, trivial⟩ Cv.p ?_
   rintro i τ ⟨hi, hj⟩
   refine WP.seq (WP.seq (WP.region (RG.ml rfl rfl rfl (RG.pv rfl (PV.field rfl Fo35_0 rfl) (RG.pv rfl (PV.load1 rfl Sc33 rfl (Rd.blk rfl)) (RG.pv rfl (PV.len rfl Tryz.underlying33 rfl (SlF.r hL.c)) (RG.pv rfl (PV.lss rfl rfl rfl) ?_)))))))
   refine RG.nil ?_
   refine WP.cond rfl (fun h2 => ?_) (fun h2 => ?_)
   · have h2 := of_decide_eq_true h2
     have h3 : i < l.cells.xs.length := by omega
     refine WP.skip (WP.seq (WP.block (WP.seq (WP.seq (WP.region (RG.pv rfl (PV.field rfl Fo35_0 rfl) (RG.pv rfl (PV.load1 rfl Sc33 rfl (Rd.blk rfl)) ?_)))))))
     refine RG.ml rfl rfl rfl (RG.pv rfl (PV.idxS rfl Is33 rfl (SlF.r hL.c) rfl rfl (by omega)) (RG.pv rfl (PV.loadE rfl Ag115 rfl rfl (El.r hL.c (getG (by omega)))) (RG.ml rfl rfl rfl ?_)))
     refine RG.callF (vs := [_, _]) rfl rfl En70 rfl (okCell_r (by omega) (hL.sa (by omega)).up (hL.la (by omega)).up (hL.na (by omega)).up (hlen.one (by omega)).1 (hlen.one (by omega)).2 ?_)
     refine RG.pv rfl (PV.not rfl rfl) (RG.nil ?_)
     refine WP.cond rfl (fun h4 => ?_) (fun h4 => ?_)
     · have e : cellAt (erCls l.cells.xs) i = false := by
         simp at h4
         rw [cellAt, erCls_gd h3, h4]; rfl
       rw [okLib_false (by omega) e] at k
       refine WP.seq (WP.region (RG.br rfl rfl rfl (RG.nil ?_)))
       refine WP.ret ?_
       exact ⟨_, _, ResV.one rfl rfl, Cv.p, k⟩
     · simp at h4
       refine WP.skip (WP.seq (WP.region (RG.mr rfl rfl rfl (RG.nil (WP.block ?_)))))
       refine WP.loop1 [1, 3] (fun m => m ≤ i ∧ ∀ j, j < m → (gd l.cells.xs j).name ≠ (gd l.cells.xs i).name) (fun m => [(4, vi m)]) (fun m => blk b1 35 (libT.enc l) :: L) (fun m => i - m) 0 ⟨by omega, fun j h => by omega⟩ ⟨rfl, trivial⟩ Cv.p ?_
       rintro m τ ⟨hm, hq⟩
       refine WP.seq (WP.seq (WP.region (RG.ml rfl rfl rfl (RG.ml rfl rfl rfl (RG.pv rfl (PV.lss rfl rfl rfl) (RG.nil ?_))))))
       refine WP.cond rfl (fun h5 => ?_) (fun h5 => ?_)
       · have h5 := of_decide_eq_true h5
         refine WP.skip (WP.seq (WP.block (WP.seq ?_)))
         refine WP.regionQ (by kernel_rfl) (by kernel_rfl) ?_
         refine RQ.pv rfl (PV.field rfl Fo35_0 rfl) ?_
         refine RQ.pv rfl (PV.load1 rfl Sc33 rfl (Rd.blk rfl)) ?_
         refine RQ.pv rfl (PV.mvI (.inl rfl) rfl) ?_
         refine RQ.pv rfl (PV.idxS rfl Is33 rfl (SlF.r hL.c) rfl rfl (by omega)) ?_
         refine RQ.pv rfl (PV.field rfl Fo115_0 rfl) ?_
         refine RQ.pv rfl (PV.loadF rfl Sc9 rfl rfl (El.r hL.c (getG (by omega))) rfl) ?_
         refine RQ.pv rfl (PV.field rfl Fo35_0 rfl) ?_
         refine RQ.pv rfl (PV.load1 rfl Sc33 rfl (Rd.blk rfl)) ?_
         refine RQ.pv rfl (PV.mvI (.inl rfl) rfl) ?_
         refine RQ.pv rfl (PV.idxS rfl Is33 rfl (SlF.r hL.c) rfl rfl (by omega)) ?_
         refine RQ.pv rfl (PV.field rfl Fo115_0 rfl) ?_
         refine RQ.pv rfl (PV.loadF rfl Sc9 rfl rfl (El.r hL.c (getG (by omega))) rfl) ?_
         refine RQ.pv rfl (PV.eqlS rfl rfl rfl) ?_
         refine RQ.nil ?_
         refine WP.cond rfl (fun h6 => ?_) (fun h6 => ?_)
         · have h6 := of_decide_eq_true h6
           have e : cellAt (erCls l.cells.xs) i = false := by
             have : nameAt (erCls l.cells.xs) i = false := by
               rw [nameAt, decide_eq_false_iff_not]
               intro hh
               have := hh m (by omega)
               rw [hn m (by omega), hn i h3] at this
               exact this h6
             rw [cellAt, this, Bool.and_false]
           rw [okLib_false (by omega) e] at k
           refine WP.seq (WP.region (RG.br rfl rfl rfl (RG.nil ?_)))
           refine WP.ret ?_
           exact ⟨_, _, ResV.one rfl rfl, Cv.p, k⟩
         · have h6 := of_decide_eq_false h6
           have hq' : ∀ j, j < m + 1 → (gd l.cells.xs j).name ≠ (gd l.cells.xs i).name := fun j h => by
             by_cases c : j = m
             · rw [c]; exact h6
             · exact hq j (by omega)
           refine WP.skip (WP.region (RG.ml rfl rfl rfl (RG.pv rfl (PV.add rfl rfl rfl (by omega)) (RG.mr rfl rfl rfl (RG.nil ?_)))))
           exact ⟨rfl, m + 1, ⟨by omega, hq'⟩, ⟨rfl, trivial⟩, ⟨rfl, rfl, trivial⟩, Cv.p, by omega⟩
       · have h5 := of_decide_eq_false h5
         have e : cellAt (erCls l.cells.xs) i = true := by
           have : nameAt (erCls l.cells.xs) i = true := by
             rw [nameAt, decide_eq_true_iff]
             intro j hj2
             rw [hn j (by omega), hn i h3]
             exact hq j (by omega)
           rw [cellAt, this, erCls_gd h3, h4]; rfl
         have hj' : ∀ j, j < i + 1 → cellAt (erCls l.cells.xs) j = true := fun j h => by
           by_cases c : j = i
           · rw [c]; exact e
           · exact hj j (by omega)
         refine WP.exit ?_
         refine WP.region (RG.ml rfl rfl rfl (RG.pv rfl (PV.add rfl rfl rfl (by omega)) (RG.mr rfl rfl rfl (RG.nil ?_))))
         exact ⟨rfl, i + 1, ⟨by omega, hj'⟩, ⟨rfl, trivial⟩, ⟨rfl, trivial⟩, Cv.p, by omega⟩
   · have h2 := of_decide_eq_false h2
     rw [okLib_all (by omega) (by omega) (fun j h => hj j (by omega))] at k
     refine WP.exit ?_
     refine WP.seq (WP.region (RG.br rfl rfl rfl (RG.nil ?_)))
     refine WP.ret ?_
     exact ⟨_, _, ResV.one rfl rfl, Cv.p, k⟩
theorem hasCl_r {l : Lib} {cell : Int} (hL : RLib G L l.cells.v l.cells.xs) (hlen : lenC (erCls l.cells.xs)) (k : R (.bool (hasCl (erCls l.cells.xs) cell)) G L) : CallT Tryz.prog 116 #[vT libT l, vi cell] G L R := by
 have hE := erCls_len l.cells.xs
 refine CallT.bd hL.c fun hb => ?_
 rw [hasCl, hE] at k
 refine CallT.enter (args := _) Tryz.func116 rfl rfl (by kernel_rfl) rfl ?_
 refine WP.seq (WP.region ?_)
 refine RG.ot rfl (OT.box (cs := libT.enc l) rfl rfl rfl fun b2 => ?_)
 refine RG.br rfl rfl rfl (RG.nil (WP.seq (WP.region (RG.pv rfl (PV.loadW rfl Ag35 rfl rfl) ?_))))
 refine RG.callF (vs := [_]) rfl rfl En35 rfl (okLib_r hL.up hlen ?_)
 refine RG.bl rfl rfl rfl ?_
 refine RG.gs rfl rfl rfl (fun hp => (PV.mvI (.inl rfl) rfl)) ?_
 refine RG.gs rfl rfl rfl (fun hp => (PV.field rfl Fo35_0 rfl)) ?_
 refine RG.gs rfl rfl rfl (fun hp => (PV.load1 rfl Sc33 (gs_t hp) (Rd.blk rfl))) ?_
 refine RG.gs rfl rfl rfl (fun hp => (PV.len rfl Tryz.underlying33 (gs_t hp) (SlF.r hL.c))) ?_
 refine RG.gs rfl rfl rfl (fun hp => (PV.sub rfl (gs_t hp) rfl (by first | omega | (simp at hp; omega)))) ?_
 refine RG.gsC rfl rfl rfl rfl En196 (fun hp => ⟨_, (acons (gs_t hp) (acons rfl (acons (gs_t hp) anil))), l09In_s ⟨rfl, rfl, rfl⟩⟩) ?_
 refine RG.pv rfl (PV.pickA rfl rfl (fun hq => gs_t (geqT hq)) rfl) (RG.br rfl rfl rfl (RG.nil ?_))
 refine WP.ret ?_
 exact ⟨_, _, ResV.one rfl rfl, Cv.p, k⟩
def celE (cs : List ECell) (cell : Int) : Int := bif !okLib cs then 1 else bif !within cell 0 ((cs.length : Int) - 1) then 5 else 0
theorem celE_i {l : Lib} {cell : Int} (hL : RLib G L l.cells.v l.cells.xs) (hlen : lenC (erCls l.cells.xs)) (k : R (vi (celE (erCls l.cells.xs) cell)) G L) : CallT Tryz.prog 202 #[vT libT l, vi cell] G L R := by
 have hE := erCls_len l.cells.xs
 refine CallT.bd hL.c fun hb => ?_
 rw [celE, hE] at k
 refine CallT.enter (args := _) Tryz.func202 rfl rfl (by kernel_rfl) rfl ?_
 refine WP.seq (WP.region ?_)
 refine RG.ot rfl (OT.box (cs := libT.enc l) rfl rfl rfl fun b2 => ?_)
 refine RG.mr rfl rfl rfl (RG.nil (WP.seq (WP.block (WP.seq (WP.region (RG.pv rfl (PV.loadW rfl Ag35 rfl rfl) ?_))))))
 refine RG.callF (vs := [_]) rfl rfl En41 rfl (okLib_i hL.up hlen ?_)
 refine RG.pv rfl (PV.not rfl rfl) (RG.br rfl rfl rfl (RG.nil ?_))
 refine WP.cond rfl (fun h1 => ?_) (fun h1 => ?_)
 · rw [h1, cond_true] at k
   refine WP.seq (WP.region (RG.mr rfl rfl rfl (RG.nil ?_)))
   refine WP.ret ?_
   exact ⟨_, _, ResV.one rfl rfl, Cv.p, k⟩
 · rw [h1, cond_false] at k
   refine WP.seq (WP.region (RG.ml rfl rfl rfl (RG.pv rfl (PV.field rfl Fo35_0 rfl) (RG.pv rfl (PV.load1 rfl Sc33 rfl (Rd.blk rfl)) (RG.pv rfl (PV.len rfl Tryz.underlying33 rfl (SlF.r hL.c)) (RG.pv rfl (PV.sub rfl rfl rfl (by omega)) ?_))))))
   refine RG.callF (vs := [_, _, _]) rfl rfl En100 rfl (within_s ?_)
   refine RG.pv rfl (PV.not rfl rfl) (RG.br rfl rfl rfl (RG.nil ?_))
   refine WP.cond rfl (fun h2 => ?_) (fun h2 => ?_)
   · rw [h2, cond_true] at k
     refine WP.seq (WP.region (RG.mr rfl rfl rfl (RG.nil ?_)))
     refine WP.ret ?_
     exact ⟨_, _, ResV.one rfl rfl, Cv.p, k⟩
   · rw [h2, cond_false] at k
     refine WP.skip (WP.seq (WP.region (RG.mr rfl rfl rfl (RG.nil ?_))))
     refine WP.ret ?_
     exact ⟨_, _, ResV.one rfl rfl, Cv.p, k⟩
theorem part0 {α : Type} [Inhabited α] {xs : List α} {i n : Nat} (h : i < n) (h' : i < xs.length) : ((xs.take n).drop 0)[i]? = some (gd xs i) := by
 rw [List.drop_zero, List.getElem?_take, if_pos h, getG h']
theorem erCl_insts {xs : List Cell} {i : Nat} (h : i < xs.length) : (gd (erCls xs) i).insts = (gd xs i).insts.xs := by rw [erCls_gd h]; rfl
/-- one step of a count -/
theorem cnt_step {cs : List ECell} (hok : okLib cs = true) {i m : Nat} (hi : i < cs.length) (hm : m < (gd cs i).insts.length) :
   (0 ≤ (gd (gd cs i).insts m).cell ∧ (gd (gd cs i).insts m).cell < i) ∧ (0 ≤ (gd (gd cs i).insts m).cols * (gd (gd cs i).insts m).rows ∧ (gd (gd cs i).insts m).cols * (gd (gd cs i).insts m).rows ≤ 16) ∧
   (0 ≤ (gd (gd cs i).insts m).cols * (gd (gd cs i).insts m).rows * gd (cnts cs i) (gd (gd cs i).insts m).cell.toNat ∧ (gd (gd cs i).insts m).cols * (gd (gd cs i).insts m).rows * gd (cnts cs i) (gd (gd cs i).insts m).cell.toNat ≤ 9511476839856144) ∧
   (1 ≤ 1 + costL (cntI (cnts cs i)) ((gd cs i).insts.take m) ∧ 1 + costL (cntI (cnts cs i)) ((gd cs i).insts.take m) ≤ 76091814718849153) ∧
   1 + costL (cntI (cnts cs i)) ((gd cs i).insts.take (m + 1)) = 1 + costL (cntI (cnts cs i)) ((gd cs i).insts.take m) + (gd (gd cs i).insts m).cols * (gd (gd cs i).insts m).rows * gd (cnts cs i) (gd (gd cs i).insts m).cell.toNat := by
 have ho := okLib_inst hok hi hm
 obtain ⟨h1, _, h3, h4, _, _⟩ := okIn_bd ho
 have e1 := mul_bd (a := (gd (gd cs i).insts m).cols) (b := (gd (gd cs i).insts m).rows) (A := 4) (B := 4) (by omega) (by omega) (by omega)
 have e0 : 0 ≤ (gd (gd cs i).insts m).cols * (gd (gd cs i).insts m).rows := Int.mul_nonneg (by omega) (by omega)
 have hb := cnts_big hok hi
 have e2 := cntI_bd (ks := cnts cs i) (M := 594467302491009) ho (hb _ (by omega))
 have e3 := ownCnt_bd hok (M := 594467302491009) (by omega) hi hb m (by omega)
 simp only [cntI] at e2
 refine ⟨by omega, by omega, by omega, by omega, ?_⟩
 rw [costL_take _ hm, ← Int.add_assoc]; rfl
theorem elCnt_i {l : Lib} {cell : Int} (hL : RLib G L l.cells.v l.cells.xs) (hok : okLib (erCls l.cells.xs) = true) (hc : 0 ≤ cell ∧ cell < (erCls l.cells.xs).length) (k : R (vi (cntOf (erCls l.cells.xs) cell.toNat)) G L) : CallT Tryz.prog 203 #[vT libT l, vi cell] G L R := by
 have hE := erCls_len l.cells.xs
 have h8 := okLib_len hok
 refine CallT.enter (args := _) Tryz.func203 rfl rfl (by kernel_rfl) rfl ?_
 refine WP.seq (WP.region ?_)
 refine RG.ot rfl (OT.box (cs := libT.enc l) rfl rfl rfl fun b2 => ?_)
 refine RG.mr rfl rfl rfl (RG.nil (WP.seq (WP.region ?_)))
 refine RG.ot rfl (OT.bslice (F := intT) (els := []) rfl El30 rfl (by decide) rfl (by decide) trivial fun v11 => ?_)
 refine RG.pv rfl (PV.asg (v := v11) rfl rfl) (RG.nil (WP.seq (WP.seq (WP.region (RG.pv rfl (PV.field rfl Fo35_0 rfl) (RG.pv rfl (PV.load1 rfl Sc33 rfl (Rd.blk rfl)) (RG.ml rfl rfl rfl ?_)))))))
 refine RG.pv rfl (PV.add rfl rfl rfl (by omega)) (RG.pv rfl (PV.slc (h := cell.toNat + 1) rfl Is33 rfl (SlF.r hL.c) optAt.n (optAt.s rfl (by omega)) (by omega) (by omega)) (RG.pv rfl (PV.len rfl Tryz.underlying33 rfl (SlF.r (Rs.slv (F := cellT) hL.c (by omega) (by omega)))) (RG.ml rfl rfl rfl (RG.nil (WP.block ?_)))))
 have hpl : (List.drop 0 (List.take (cell.toNat + 1) l.cells.xs)).length = cell.toNat + 1 := by simp; omega
 refine WP.cv (Cv.eqS (xs := []) (ys := cnts (erCls l.cells.xs) 0) rfl) ?_
 refine WP.loop2 [1, 16, 17] (fun (i : Nat) (v : Value) => i ≤ cell.toNat + 1) (fun (i : Nat) (v : Value) => [(18, vi i), (5, v)]) (fun (i : Nat) (v : Value) => osl 2 intT v (cnts (erCls l.cells.xs) i) :: blk b2 35 (libT.enc l) :: L) (fun (i : Nat) (v : Value) => cell.toNat + 1 - i) 0 v11 (by omega) ⟨rfl, rfl, trivial⟩ Cv.p ?_
 rintro i v τ hi
 refine WP.seq (WP.region (RG.pv rfl (PV.lss rfl rfl rfl) (RG.nil (WP.seq ?_))))
 have hcl := cnts_len (erCls l.cells.xs) i
 refine WP.cond rfl (fun h2 => ?_) (fun h2 => ?_)
 · have h2 := of_decide_eq_true h2
   have h3 : i < l.cells.xs.length := by omega
   have hin := erCl_insts h3
   have h8i := (okLib_cnt hok (i := i) (by omega)).1
   rw [hin] at h8i
   refine WP.skip (WP.seq (WP.block (WP.seq (WP.region (RG.pv rfl (PV.idxS rfl Is33 rfl (SlF.r (Rs.slv (F := cellT) hL.c (by omega) (by omega))) rfl rfl (by omega)) (RG.pv rfl (PV.loadE rfl Ag115 rfl rfl (El.r (Rs.slv (F := cellT) hL.c (lo := 0) (hi := cell.toNat + 1) (by omega) (by omega)) (part0 (by omega) (by omega)))) ?_))))))
   refine RG.ot rfl (OT.alloc rfl Zr115 fun b7 => ?_)
   refine RG.ot rfl (OT.storeW (vs := [.string _, _, _, _]) rfl Sz115 rfl rfl (Cl.c rfl) rfl rfl (hL.one h3) ?_)
   refine RG.nil (WP.seq (WP.region (RG.mr rfl rfl rfl (RG.nil (WP.seq (WP.seq (WP.region ?_)))))))
   refine RG.pv rfl (PV.field rfl Fo115_3 rfl) (RG.pv rfl (PV.load1 rfl Sc113 rfl (Rd.blk rfl)) (RG.pv rfl (PV.len rfl Tryz.underlying113 rfl (SlF.r (hL.na h3))) (RG.ml rfl rfl rfl (RG.nil (WP.block ?_)))))
   refine WP.loop2 [1, 5, 16, 17, 18, 23, 24] (fun (m : Nat) (own : Int) => m ≤ (gd l.cells.xs i).insts.xs.length ∧ own = 1 + costL (cntI (cnts (erCls l.cells.xs) i)) ((gd (erCls l.cells.xs) i).insts.take m)) (fun (m : Nat) (own : Int) => [(25, vi m), (8, vi own)]) (fun (m : Nat) (own : Int) => osl 2 intT v (cnts (erCls l.cells.xs) i) :: blk b2 35 (libT.enc l) :: L) (fun (m : Nat) (own : Int) => (gd l.cells.xs i).insts.xs.length - m) 0 1 ⟨by omega, by simp [costL]⟩ ⟨rfl, rfl, trivial⟩ Cv.p ?_
   rintro m own τ ⟨hm, he⟩
   refine WP.seq (WP.region (RG.pv rfl (PV.lss rfl rfl rfl) (RG.nil (WP.seq ?_))))
   refine WP.cond rfl (fun h4 => ?_) (fun h4 => ?_)
   · have h4 := of_decide_eq_true h4
     have hst := cnt_step hok (i := i) (m := m) (by omega) (by rw [hin]; omega)
     rw [hin] at hst he
     obtain ⟨q1, q2, q3, q4, q5⟩ := hst
     refine WP.skip (WP.seq (WP.block (WP.seq (WP.region (RG.pv rfl (PV.idxS rfl Is113 rfl (SlF.r (hL.na h3)) rfl rfl (by omega)) (RG.pv rfl (PV.loadE rfl Ag173 rfl rfl (El.r (hL.na h3) (getG (by omega)))) ?_))))))
     refine RG.ot rfl (OT.alloc rfl Zr173 fun b10 => ?_)
     refine RG.ot rfl (OT.storeW (vs := [vi _, vi _, vi _, vi _, vi _, vi _, vi _, vi _]) rfl Sz173 rfl rfl (Cl.c rfl) rfl rfl (OneC.c rfl) ?_)
     refine RG.nil ?_
     refine WP.regionQ (by kernel_rfl) (by kernel_rfl) ?_
     refine RQ.pv rfl (PV.mvI (.inl rfl) rfl) ?_
     refine RQ.pv rfl (PV.field rfl Fo173_2 rfl) ?_
     refine RQ.pv rfl (PV.load1 rfl Sc2 rfl (Rd.blk rfl)) ?_
     refine RQ.pv rfl (PV.field rfl Fo173_3 rfl) ?_
     refine RQ.pv rfl (PV.load1 rfl Sc2 rfl (Rd.blk rfl)) ?_
     refine RQ.pv rfl (PV.mul rfl rfl rfl (by omega)) ?_
     refine RQ.pv rfl (PV.move (v := v) rfl rfl) ?_
     refine RQ.pv rfl (PV.field rfl Fo173_0 rfl) ?_
     refine RQ.pv rfl (PV.load1 rfl Sc2 rfl (Rd.blk rfl)) ?_
     refine RQ.pv rfl (PV.idxS (j := (gd (gd l.cells.xs i).insts.xs m).cell.toNat) (v := v) rfl Is30 rfl SlF.o rfl (by omega) (by omega)) ?_
     refine RQ.pv rfl (PV.loadE1 rfl Sc2 rfl rfl (El.o (getG (by omega))) rfl) ?_
     refine RQ.pv rfl (PV.mul rfl rfl rfl (by omega)) ?_
     refine RQ.pv rfl (PV.add rfl rfl rfl (by omega)) ?_
     refine RQ.pv rfl (PV.mvI (.inr rfl) rfl) ?_
     refine RQ.nil ?_
     refine WP.region (RG.pv rfl (PV.add rfl rfl rfl (by omega)) (RG.ml rfl rfl rfl (RG.nil ?_)))
     exact ⟨rfl, m + 1, _, ⟨by omega, by rw [hin, q5, he]⟩, ⟨rfl, rfl, trivial⟩, ⟨rfl, rfl, rfl, rfl, rfl, rfl, rfl, trivial⟩, Cv.p, by omega⟩
   · have h4 := of_decide_eq_false h4
     have e : own = ownCnt (cnts (erCls l.cells.xs) i) (gd (erCls l.cells.xs) i).insts := by rw [he, List.take_of_length_le (by rw [hin]; omega)]; rfl
     refine WP.exit ?_
     refine WP.region (RG.pv rfl (PV.move (v := v) rfl rfl) (RG.ml rfl rfl rfl ?_))
     refine RG.ot rfl (OT.bslice (F := intT) (els := [_]) rfl El30 rfl (by decide) rfl (by decide) ⟨rfl, (Cl.c rfl), trivial⟩ fun v45 => ?_)
     refine RG.ot rfl (OT.append (v := v) (u := v45) (F := intT) rfl El30 rfl (by decide) rfl rfl Rs.o (OneL.c (fun _ => rfl)) rfl (by first | omega | (simp <;> omega)) fun v46 => ?_)
     refine RG.pv rfl (PV.asg (v := v46) rfl rfl) (RG.nil (WP.region (RG.pv rfl (PV.add rfl rfl rfl (by omega)) (RG.ml rfl rfl rfl (RG.nil ?_)))))
     exact ⟨rfl, i + 1, _, (by omega), ⟨rfl, rfl, trivial⟩, ⟨rfl, rfl, rfl, trivial⟩, ((Cv.p (C := osl 2 intT v46 (cnts (erCls l.cells.xs) i ++ [own]) :: blk b2 35 (libT.enc l) :: L)).trans (Cv.eqS (by rw [e]; rfl))), by omega⟩
 · have h2 := of_decide_eq_false h2
   have e : gd (cnts (erCls l.cells.xs) i) cell.toNat = cntOf (erCls l.cells.xs) cell.toNat := cnts_gd _ (by omega)
   rw [← e] at k
   refine WP.exit ?_
   refine WP.seq (WP.region (RG.pv rfl (PV.move (v := v) rfl rfl) (RG.ml rfl rfl rfl (RG.pv rfl (PV.idxS (j := cell.toNat) (v := v) rfl Is30 rfl SlF.o rfl (by omega) (by omega)) (RG.pv rfl (PV.loadE1 rfl Sc2 rfl rfl (El.o (getG (by omega))) rfl) (RG.mr rfl rfl rfl (RG.nil ?_)))))))
   refine WP.ret ?_
   exact ⟨_, _, ResV.one rfl rfl, Cv.p, k⟩
theorem elCnt_r {l : Lib} {cell : Int} (hL : RLib G L l.cells.v l.cells.xs) (hlen : lenC (erCls l.cells.xs)) (hok : okLib (erCls l.cells.xs) = true) (hc : 0 ≤ cell ∧ cell < (erCls l.cells.xs).length) (k : R (vi (cntOf (erCls l.cells.xs) cell.toNat)) G L) : CallT Tryz.prog 214 #[vT libT l, vi cell] G L R := by
 have hE := erCls_len l.cells.xs
 have h8 := okLib_len hok
 have hh : hasCl (erCls l.cells.xs) cell = true := by simp [hasCl, hok, within]; omega
 refine CallT.enter (args := _) Tryz.func214 rfl rfl (by kernel_rfl) rfl ?_
 refine WP.seq (WP.region ?_)
 refine RG.ot rfl (OT.box (cs := libT.enc l) rfl rfl rfl fun b2 => ?_)
 refine RG.mr rfl rfl rfl (RG.nil (WP.seq (WP.seq (WP.region (RG.pv rfl (PV.loadW rfl Ag35 rfl rfl) (RG.ml rfl rfl rfl ?_))))))
 refine RG.callF (vs := [_, _]) rfl rfl En116 rfl (hasCl_r hL.up hlen ?_)
 refine RG.pv rfl (PV.not rfl rfl) (RG.nil ?_)
 refine WP.cond rfl (fun h1 => ?_) (fun h1 => ?_)
 · exfalso; simp [hh] at h1
 refine WP.skip (WP.seq (WP.region ?_))
 refine RG.ot rfl (OT.bslice (F := intT) (els := []) rfl El30 rfl (by decide) rfl (by decide) trivial fun v14 => ?_)
 refine RG.pv rfl (PV.asg (v := v14) rfl rfl) (RG.nil (WP.seq (WP.seq (WP.region (RG.mr rfl rfl rfl (RG.nil (WP.block ?_)))))))
 refine WP.cv (Cv.eqS (xs := []) (ys := cnts (erCls l.cells.xs) 0) rfl) ?_
 refine WP.loop2 [1, 2] (fun (i : Nat) (v : Value) => i ≤ l.cells.xs.length) (fun (i : Nat) (v : Value) => [(6, vi i), (5, v)]) (fun (i : Nat) (v : Value) => osl 2 intT v (cnts (erCls l.cells.xs) i) :: blk b2 35 (libT.enc l) :: L) (fun (i : Nat) (v : Value) => l.cells.xs.length - i) 0 v14 (by omega) ⟨rfl, rfl, trivial⟩ Cv.p ?_
 rintro i v τ hi
 refine WP.seq (WP.seq (WP.region (RG.ml rfl rfl rfl (RG.pv rfl (PV.field rfl Fo35_0 rfl) (RG.pv rfl (PV.load1 rfl Sc33 rfl (Rd.blk rfl)) (RG.pv rfl (PV.len rfl Tryz.underlying33 rfl (SlF.r hL.c)) (RG.pv rfl (PV.lss rfl rfl rfl) ?_)))))))
 refine RG.nil ?_
 have hcl := cnts_len (erCls l.cells.xs) i
 refine WP.cond rfl (fun h2 => ?_) (fun h2 => ?_)
 · have h2 := of_decide_eq_true h2
   have h3 : i < l.cells.xs.length := by omega
   have hin := erCl_insts h3
   have h8i := (okLib_cnt hok (i := i) (by omega)).1
   rw [hin] at h8i
   refine WP.skip (WP.seq (WP.block (WP.seq (WP.region (RG.mr rfl rfl rfl (RG.nil (WP.seq ?_)))))))
   refine WP.region (RG.pv rfl (PV.field rfl Fo35_0 rfl) (RG.pv rfl (PV.load1 rfl Sc33 rfl (Rd.blk rfl)) (RG.ml rfl rfl rfl (RG.pv rfl (PV.idxS rfl Is33 rfl (SlF.r hL.c) rfl rfl (by omega)) (RG.pv rfl (PV.field rfl Fo115_3 rfl) (RG.pv rfl (PV.loadF rfl Sc113 rfl rfl (El.r hL.c (getG (by omega))) rfl) (RG.pv rfl (PV.asg rfl rfl) ?_)))))))
   refine RG.nil (WP.seq (WP.seq (WP.region (RG.mr rfl rfl rfl (RG.nil (WP.block ?_))))))
   refine WP.loop2 [1, 2, 5, 6, 8] (fun (m : Nat) (own : Int) => m ≤ (gd l.cells.xs i).insts.xs.length ∧ own = 1 + costL (cntI (cnts (erCls l.cells.xs) i)) ((gd (erCls l.cells.xs) i).insts.take m)) (fun (m : Nat) (own : Int) => [(9, vi m), (7, vi own)]) (fun (m : Nat) (own : Int) => osl 2 intT v (cnts (erCls l.cells.xs) i) :: blk b2 35 (libT.enc l) :: L) (fun (m : Nat) (own : Int) => (gd l.cells.xs i).insts.xs.length - m) 0 1 ⟨by omega, by simp [costL]⟩ ⟨rfl, rfl, trivial⟩ Cv.p ?_
   rintro m own τ ⟨hm, he⟩
   refine WP.seq (WP.seq (WP.region (RG.ml rfl rfl rfl (RG.pv rfl (PV.move rfl rfl) (RG.pv rfl (PV.len rfl Tryz.underlying113 rfl (SlF.r (hL.na h3))) (RG.pv rfl (PV.lss rfl rfl rfl) (RG.nil ?_)))))))
   refine WP.cond rfl (fun h4 => ?_) (fun h4 => ?_)
   · have h4 := of_decide_eq_true h4
     have hst := cnt_step hok (i := i) (m := m) (by omega) (by rw [hin]; omega)
     rw [hin] at hst he
     obtain ⟨q1, q2, q3, q4, q5⟩ := hst
     refine WP.skip (WP.seq (WP.block ?_))
     refine WP.regionQ (by kernel_rfl) (by kernel_rfl) ?_
     refine RQ.pv rfl (PV.mvI (.inl rfl) rfl) ?_
     refine RQ.pv rfl (PV.move rfl rfl) ?_
     refine RQ.pv rfl (PV.mvI (.inl rfl) rfl) ?_
     refine RQ.pv rfl (PV.idxS rfl Is113 rfl (SlF.r (hL.na h3)) rfl rfl (by omega)) ?_
     refine RQ.pv rfl (PV.field rfl Fo173_2 rfl) ?_
     refine RQ.pv rfl (PV.loadF rfl Sc2 rfl rfl (El.r (hL.na h3) (getG (by omega))) rfl) ?_
     refine RQ.pv rfl (PV.move rfl rfl) ?_
     refine RQ.pv rfl (PV.mvI (.inl rfl) rfl) ?_
     refine RQ.pv rfl (PV.idxS rfl Is113 rfl (SlF.r (hL.na h3)) rfl rfl (by omega)) ?_
     refine RQ.pv rfl (PV.field rfl Fo173_3 rfl) ?_
     refine RQ.pv rfl (PV.loadF rfl Sc2 rfl rfl (El.r (hL.na h3) (getG (by omega))) rfl) ?_
     refine RQ.pv rfl (PV.mul rfl rfl rfl (by omega)) ?_
     refine RQ.pv rfl (PV.move (v := v) rfl rfl) ?_
     refine RQ.pv rfl (PV.move rfl rfl) ?_
     refine RQ.pv rfl (PV.mvI (.inl rfl) rfl) ?_
     refine RQ.pv rfl (PV.idxS rfl Is113 rfl (SlF.r (hL.na h3)) rfl rfl (by omega)) ?_
     refine RQ.pv rfl (PV.field rfl Fo173_0 rfl) ?_
     refine RQ.pv rfl (PV.loadF rfl Sc2 rfl rfl (El.r (hL.na h3) (getG (by omega))) rfl) ?_
     refine RQ.pv rfl (PV.idxS (j := (gd (gd l.cells.xs i).insts.xs m).cell.toNat) (v := v) rfl Is30 rfl SlF.o rfl (by omega) (by omega)) ?_
     refine RQ.pv rfl (PV.loadE1 rfl Sc2 rfl rfl (El.o (getG (by omega))) rfl) ?_
     refine RQ.pv rfl (PV.mul rfl rfl rfl (by omega)) ?_
     refine RQ.pv rfl (PV.add rfl rfl rfl (by omega)) ?_
     refine RQ.pv rfl (PV.mvI (.inr rfl) rfl) ?_
     refine RQ.nil ?_
     refine WP.region (RG.ml rfl rfl rfl (RG.pv rfl (PV.add rfl rfl rfl (by omega)) (RG.mr rfl rfl rfl (RG.nil ?_))))
     exact ⟨rfl, m + 1, _, ⟨by omega, by rw [hin, q5, he]⟩, ⟨rfl, rfl, trivial⟩, ⟨rfl, rfl, rfl, rfl, rfl, trivial⟩, Cv.p, by omega⟩
   · have h4 := of_decide_eq_false h4
     have e : own = ownCnt (cnts (erCls l.cells.xs) i) (gd (erCls l.cells.xs) i).insts := by rw [he, List.take_of_length_le (by rw [hin]; omega)]; rfl
     refine WP.exit ?_
     refine WP.region (RG.pv rfl (PV.move (v := v) rfl rfl) (RG.ml rfl rfl rfl ?_))
     refine RG.ot rfl (OT.bslice (F := intT) (els := [_]) rfl El30 rfl (by decide) rfl (by decide) ⟨rfl, (Cl.c rfl), trivial⟩ fun v58 => ?_)
     refine RG.ot rfl (OT.append (v := v) (u := v58) (F := intT) rfl El30 rfl (by decide) rfl rfl Rs.o (OneL.c (fun _ => rfl)) rfl (by first | omega | (simp <;> omega)) fun v59 => ?_)
     refine RG.pv rfl (PV.asg (v := v59) rfl rfl) (RG.nil (WP.region (RG.ml rfl rfl rfl (RG.pv rfl (PV.add rfl rfl rfl (by omega)) (RG.mr rfl rfl rfl (RG.nil ?_))))))
     exact ⟨rfl, i + 1, _, (by omega), ⟨rfl, rfl, trivial⟩, ⟨rfl, rfl, trivial⟩, ((Cv.p (C := osl 2 intT v59 (cnts (erCls l.cells.xs) i ++ [own]) :: blk b2 35 (libT.enc l) :: L)).trans (Cv.eqS (by rw [e]; rfl))), by omega⟩
 · have h2 := of_decide_eq_false h2
   have e : gd (cnts (erCls l.cells.xs) i) cell.toNat = cntOf (erCls l.cells.xs) cell.toNat := cnts_gd _ (by omega)
   rw [← e] at k
   refine WP.exit ?_
   refine WP.seq (WP.region (RG.pv rfl (PV.move (v := v) rfl rfl) (RG.ml rfl rfl rfl (RG.pv rfl (PV.idxS (j := cell.toNat) (v := v) rfl Is30 rfl SlF.o rfl (by omega) (by omega)) (RG.pv rfl (PV.loadE1 rfl Sc2 rfl rfl (El.o (getG (by omega))) rfl) (RG.mr rfl rfl rfl (RG.nil ?_)))))))
   refine WP.ret ?_
   exact ⟨_, _, ResV.one rfl rfl, Cv.p, k⟩
end Go.Proofs.YtgphjofccckloaaGreat
