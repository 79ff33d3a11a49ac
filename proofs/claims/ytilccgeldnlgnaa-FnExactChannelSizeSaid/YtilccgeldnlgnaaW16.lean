/-
  Contracts: flooding; the components of a set of cells.
-/
import Derived.Test.YtilccgeldnlgnaaW6
import Derived.Test.YtilccgeldnlgnaaFlood
namespace Go.Proofs.Ytilccgeldnlgnaa
open Go
set_option maxRecDepth 20000
set_option linter.unusedSimpArgs false
variable {G : Gh} {L : List Ch} {R : Value → Gh → List Ch → Prop}
theorem Cv.cast {L L' : List Ch} (h : L = L') : Cv L L' := by subst h; exact Cv.refl _
theorem WP.loop4 {P : Program} {n : Nat} {Q : Post} {σ : Nat → Value} {G : Gh} {L : List Ch} {c : Code} (keep : List Nat) {A B D E : Type} (J : A → B → D → E → Prop) (S : A → B → D → E → List (Nat × Value)) (C : A → B → D → E → List Ch) (μ : A → B → D → E → Nat) (a0 : A) (b0 : B) (d0 : D) (e0 : E) (j0 : J a0 b0 d0 e0) (h0 : HasV σ (S a0 b0 d0 e0)) (p0 : Cv L (C a0 b0 d0 e0))
    (round : ∀ a b d e τ, J a b d e → WP P n c (thenP (fun σ' G' L' => G' = G ∧ ∃ a' b' d' e', J a' b' d' e' ∧ HasV σ' (S a' b' d' e') ∧ Keeps σ' σ keep ∧ Cv L' (C a' b' d' e') ∧ μ a' b' d' e' < μ a b d e) Q) (upds (updk τ σ keep) (S a b d e)) G (C a b d e)) : WP P n (.loop c) Q σ G L :=
  WP.loop0 keep (A := A × B × D × E) (fun x => J x.1 x.2.1 x.2.2.1 x.2.2.2) (fun x => S x.1 x.2.1 x.2.2.1 x.2.2.2) (fun x => C x.1 x.2.1 x.2.2.1 x.2.2.2) (fun x => μ x.1 x.2.1 x.2.2.1 x.2.2.2) (a0, b0, d0, e0) j0 h0 p0 fun x τ j =>
    WP.mono (round x.1 x.2.1 x.2.2.1 x.2.2.2 τ j) fun e σ G L hq => by
      cases e with
      | normal => obtain ⟨e, a', b', d', e', h⟩ := hq; exact ⟨e, (a', b', d', e'), h⟩
      | _ => exact hq
theorem Cv.grd {b y x : Nat} {O : List Bool} {q : Bool} {L : List Ch} : Cv (Go.Proofs.Ytilccgeldnlgnaa.grd b (O.set (0 + y * 80 + x * 1) q) :: L) (Go.Proofs.Ytilccgeldnlgnaa.grd b (O.set (y * 80 + x) q) :: L) := Cv.cast (by rw [show 0 + y * 80 + x * 1 = y * 80 + x by omega])
theorem gd_gb {B : List Bool} {a b : Nat} : gd B (0 + a * 80 + b * 1) = gb B a b := by rw [gb]; congr 1; omega
theorem Done.add {S O O' : List Bool} {Q : List (Int × Int)} {i : Nat} {q : Int × Int} (h : Done S O Q i) (hi : i < Q.length) (hO : ∀ c, On O c → On O' c) : Done S O' (Q ++ [q]) i := fun m hm c ha hs => by
  rw [gd_app_l (by omega)] at ha; exact hO c (h m hm c ha hs)
theorem Done.next {S O : List Bool} {Q : List (Int × Int)} {i : Nat} {p : Cel} (h : Done S O Q i) (hp : qc (gd Q i) = p) (hn : Near S O p 2 (-1)) : Done S O Q (i + 1) := fun m hm c ha hs => by
  by_cases e : m = i
  · subst e; rw [hp] at ha; exact hn.done c ha hs
  · exact h m (by omega) c ha hs
theorem Near.skip {S O : List Bool} {q : Int × Int} {dy dx : Int} (h : Near S O (qc q) dy dx) (hb : 0 ≤ q.1 ∧ q.1 < 80 ∧ 0 ≤ q.2 ∧ q.2 < 80) (hc : (dx ≠ 0 ∧ dy ≠ 0) ∨ q.1 + dx < 0 ∨ q.2 + dy < 0 ∨ q.1 + dx ≥ 80 ∨ q.2 + dy ≥ 80 ∨ gb S (q.2 + dy).toNat (q.1 + dx).toNat = false ∨ gb O (q.2 + dy).toNat (q.1 + dx).toNat = true) : Near S O (qc q) dy (dx + 1) :=
  h.step (fun _ h => h) fun c ha hs e1 e2 => by
    obtain ⟨c1, c2⟩ := c
    obtain ⟨h1, h2, h3⟩ := hs
    simp only [qc, Adj] at *
    have e3 : c1 = (q.2 + dy).toNat := by omega
    have e4 : c2 = (q.1 + dx).toNat := by omega
    rcases hc with k | k | k | k | k | k | k
    · omega
    · omega
    · omega
    · omega
    · omega
    · rw [← e3, ← e4, h3] at k; cases k
    · exact ⟨h1, h2, by rw [e3, e4]; exact k⟩
theorem Near.take {S O : List Bool} {q : Int × Int} {dy dx : Int} (h : Near S O (qc q) dy dx) (hl : O.length = 6400) (hb : 0 ≤ q.1 ∧ q.1 < 80 ∧ 0 ≤ q.2 ∧ q.2 < 80) (hx : 0 ≤ q.1 + dx ∧ q.1 + dx < 80) (hy : 0 ≤ q.2 + dy ∧ q.2 + dy < 80) : Near S (O.set ((q.2 + dy).toNat * 80 + (q.1 + dx).toNat) true) (qc q) dy (dx + 1) :=
  h.step (fun c hc => on_set hl hx hy hc) fun c ha hs e1 e2 => by
    obtain ⟨c1, c2⟩ := c
    obtain ⟨h1, h2, h3⟩ := hs
    simp only [qc, Adj] at *
    have e3 : c1 = (q.2 + dy).toNat := by omega
    have e4 : c2 = (q.1 + dx).toNat := by omega
    refine ⟨h1, h2, ?_⟩
    rw [gb_set' hl (by omega) (by omega) h2, if_pos ⟨e3, e4⟩]
theorem adj_near {q : Int × Int} {dy dx : Int} (hb : 0 ≤ q.1 ∧ q.1 < 80 ∧ 0 ≤ q.2 ∧ q.2 < 80) (hd : (-1 ≤ dy ∧ dy ≤ 1) ∧ (-1 ≤ dx ∧ dx ≤ 1)) (hn : dx = 0 ∨ dy = 0) (h0 : ¬ (dx = 0 ∧ dy = 0)) (hx : 0 ≤ q.1 + dx) (hy : 0 ≤ q.2 + dy) : Adj (qc q) ((q.2 + dy).toNat, (q.1 + dx).toNat) := by
  simp only [qc, Adj]; omega
theorem flood_s {b : Nat} {S : List Bool} {x y : Int} (hS : S.length = 6400) (hx : 0 ≤ x ∧ x < 80) (hy : 0 ≤ y ∧ y < 80) (hon : gb S y.toNat x.toNat = true) (k : ∀ b', R (.pointer (some ⟨b', 0, none⟩)) G (grd b' (compB S (y.toNat, x.toNat)) :: grd b S :: L)) :
    CallT Try.prog 213 #[.pointer (some ⟨b, 0, none⟩), vi x, vi y, .bool false] G (grd b S :: L) R := by
  have hst := FI.start (S := S) hx hy
  have hseed : On S (y.toNat, x.toNat) := ⟨by simp only; omega, by simp only; omega, hon⟩
  refine CallT.enter (args := _) Try.func213 rfl rfl (by kernel_rfl) rfl ?_
  refine WP.seq ?_
  refine WP.region ?_
  refine RG.pv rfl (PV.asg rfl rfl) ?_
  refine RG.nil ?_
  refine WP.seq ?_
  refine WP.region ?_
  refine RG.pv rfl (PV.build0 rfl Try.underlying168 ⟨80, by kernel_rfl⟩ (zeroB_spec (n := 6400) (by kernel_rfl))) ?_
  refine RG.ot rfl (OT.boxG rfl rfl fun b17 => ?_)
  refine RG.pv rfl (PV.mvP (.inr rfl) rfl) ?_
  refine RG.nil ?_
  refine WP.seq ?_
  refine WP.region ?_
  refine RG.pv rfl (PV.mvP (.inl rfl) rfl) ?_
  refine RG.pv rfl (PV.mvI (.inl rfl) rfl) ?_
  refine RG.pv rfl (PV.mvI (.inl rfl) rfl) ?_
  refine RG.pv rfl (PV.nilc rfl rfl) ?_
  refine RG.pv rfl (PV.idxA (j := y.toNat) rfl Ia168 rfl rfl (by omega) (by omega)) ?_
  refine RG.pv rfl (PV.idxA (j := x.toNat) rfl Ia166 rfl rfl (by omega) (by omega)) ?_
  refine RG.ot rfl (OT.storeGr rfl Sz4 rfl rfl rfl (by first | omega | (simp; omega)) ?_)
  refine RG.nil ?_
  refine WP.seq ?_
  refine WP.region ?_
  refine RG.pv rfl (PV.mvI (.inl rfl) rfl) ?_
  refine RG.pv rfl (PV.mvI (.inl rfl) rfl) ?_
  refine RG.pv rfl (PV.buildA (F := intT) (az := [_, _]) rfl Try.underlying218 (by kernel_rfl) ⟨rfl, (Cl.c rfl), ⟨rfl, (Cl.c rfl), trivial⟩⟩) ?_
  refine RG.ot rfl (OT.bslice (F := prT) (els := [⟨_, _⟩]) rfl El219 rfl (by decide) rfl (by decide) ⟨rfl, (Cl.c rfl), trivial⟩ fun v27 => ?_)
  refine RG.pv rfl (PV.asg (v := v27) rfl rfl) ?_
  refine RG.nil ?_
  refine WP.seq ?_
  refine WP.seq ?_
  refine WP.region ?_
  refine RG.pv rfl (PV.mvI (.inr rfl) rfl) ?_
  refine RG.nil ?_
  refine WP.block ?_
  refine WP.cv ((Cv.p (C := grd b17 ((List.replicate 6400 false).set (0 + y.toNat * 80 + x.toNat * 1) true) :: osl 218 prT v27 [(x, y)] :: grd b S :: L)).trans Cv.grd) ?_
  refine WP.loop4 [0, 3, 9] (fun (i : Nat) (Q : List (Int × Int)) (O : List Bool) (qv : Value) => i ≤ Q.length ∧ FI S (y.toNat, x.toNat) O Q ∧ Done S O Q i ∧ On O (y.toNat, x.toNat)) (fun (i : Nat) (Q : List (Int × Int)) (O : List Bool) (qv : Value) => [(11, vi i), (10, qv)]) (fun (i : Nat) (Q : List (Int × Int)) (O : List Bool) (qv : Value) => grd b17 O :: osl 218 prT qv Q :: grd b S :: L) (fun (i : Nat) (Q : List (Int × Int)) (O : List Bool) (qv : Value) => 6401 - i) 0 [(x, y)] ((List.replicate 6400 false).set (y.toNat * 80 + x.toNat) true) v27 ⟨by simp, hst, fun m hm => by omega, by have := hst.on 0 (by simp); simpa [gd, qc] using this⟩ ⟨rfl, rfl, trivial⟩ Cv.p ?_
  rintro i Q O qv τ ⟨hi, hF, hD, h0⟩
  refine WP.seq ?_
  refine WP.seq ?_
  refine WP.region ?_
  refine RG.pv rfl (PV.mvI (.inl rfl) rfl) ?_
  refine RG.pv rfl (PV.move (v := qv) rfl rfl) ?_
  refine RG.pv rfl (PV.len (v := qv) rfl Try.underlying219 rfl SlF.o) ?_
  refine RG.pv rfl (PV.lss rfl rfl rfl) ?_
  refine RG.nil ?_
  refine WP.cond rfl (fun h2 => ?_) (fun h2 => ?_)
  · have h2 := of_decide_eq_true h2
    have hQ := hF.len_le
    have hb := hF.bd i (by omega)
    refine WP.skip ?_
    refine WP.seq ?_
    refine WP.block ?_
    refine WP.seq ?_
    refine WP.region ?_
    refine RG.pv rfl (PV.mvI (.inr rfl) rfl) ?_
    refine RG.nil ?_
    refine WP.block ?_
    refine WP.loop4 [0, 3, 9, 11] (fun (dy : Int) (Q1 : List (Int × Int)) (O1 : List Bool) (qv1 : Value) => (-1 ≤ dy ∧ dy ≤ 2) ∧ FI S (y.toNat, x.toNat) O1 Q1 ∧ Done S O1 Q1 i ∧ On O1 (y.toNat, x.toNat) ∧ i < Q1.length ∧ gd Q1 i = gd Q i ∧ Near S O1 (qc (gd Q i)) dy (-1)) (fun (dy : Int) (Q1 : List (Int × Int)) (O1 : List Bool) (qv1 : Value) => [(12, vi dy), (10, qv1)]) (fun (dy : Int) (Q1 : List (Int × Int)) (O1 : List Bool) (qv1 : Value) => grd b17 O1 :: osl 218 prT qv1 Q1 :: grd b S :: L) (fun (dy : Int) (Q1 : List (Int × Int)) (O1 : List Bool) (qv1 : Value) => (2 - dy).toNat) (-1) Q O qv ⟨by omega, hF, hD, h0, by omega, rfl, Near.zero _ _ _⟩ ⟨rfl, rfl, trivial⟩ Cv.p ?_
    rintro dy Q1 O1 qv1 τ1 ⟨⟨hy1, hy2⟩, hF1, hD1, h01, hi1, hq1, hN1⟩
    refine WP.seq ?_
    refine WP.seq ?_
    refine WP.region ?_
    refine RG.pv rfl (PV.mvI (.inl rfl) rfl) ?_
    refine RG.pv rfl (PV.leq rfl rfl rfl) ?_
    refine RG.nil ?_
    refine WP.cond rfl (fun h3 => ?_) (fun h3 => ?_)
    · have h3 := of_decide_eq_true h3
      refine WP.skip ?_
      refine WP.seq ?_
      refine WP.block ?_
      refine WP.seq ?_
      refine WP.region ?_
      refine RG.pv rfl (PV.mvI (.inr rfl) rfl) ?_
      refine RG.nil ?_
      refine WP.block ?_
      refine WP.loop4 [0, 3, 9, 11, 12] (fun (dx : Int) (Q2 : List (Int × Int)) (O2 : List Bool) (qv2 : Value) => (-1 ≤ dx ∧ dx ≤ 2) ∧ FI S (y.toNat, x.toNat) O2 Q2 ∧ Done S O2 Q2 i ∧ On O2 (y.toNat, x.toNat) ∧ i < Q2.length ∧ gd Q2 i = gd Q i ∧ Near S O2 (qc (gd Q i)) dy dx) (fun (dx : Int) (Q2 : List (Int × Int)) (O2 : List Bool) (qv2 : Value) => [(13, vi dx), (10, qv2)]) (fun (dx : Int) (Q2 : List (Int × Int)) (O2 : List Bool) (qv2 : Value) => grd b17 O2 :: osl 218 prT qv2 Q2 :: grd b S :: L) (fun (dx : Int) (Q2 : List (Int × Int)) (O2 : List Bool) (qv2 : Value) => (2 - dx).toNat) (-1) Q1 O1 qv1 ⟨by omega, hF1, hD1, h01, hi1, hq1, hN1⟩ ⟨rfl, rfl, trivial⟩ Cv.p ?_
      rintro dx Q2 O2 qv2 τ2 ⟨⟨hx1, hx2⟩, hF2, hD2, h02, hi2, hq2, hN2⟩
      refine WP.seq ?_
      refine WP.seq ?_
      refine WP.region ?_
      refine RG.pv rfl (PV.mvI (.inl rfl) rfl) ?_
      refine RG.pv rfl (PV.leq rfl rfl rfl) ?_
      refine RG.nil ?_
      refine WP.cond rfl (fun h4 => ?_) (fun h4 => ?_)
      · have h4 := of_decide_eq_true h4
        have hl2 := hF2.len
        have hQ2 := hF2.len_le
        have hb2 : 0 ≤ (gd Q2 i).1 ∧ (gd Q2 i).1 < 80 ∧ 0 ≤ (gd Q2 i).2 ∧ (gd Q2 i).2 < 80 := by rw [hq2]; exact hb
        refine WP.skip ?_
        refine WP.seq ?_
        refine WP.block ?_
        refine WP.seq ?_
        refine WP.regionQ (by kernel_rfl) (by kernel_rfl) ?_
        refine RQ.pv rfl (PV.move (v := qv2) rfl rfl) ?_
        refine RQ.pv rfl (PV.mvI (.inl rfl) rfl) ?_
        refine RQ.pv rfl (PV.idxS (j := i) (v := qv2) rfl Is219 rfl SlF.o rfl (by omega) (by omega)) ?_
        refine RQ.pv rfl (PV.idxA (j := 0) rfl Ia218 rfl rfl (by omega) (by omega)) ?_
        refine RQ.pv rfl (PV.loadF rfl Sc3 rfl rfl (El.o (getG (by omega))) rfl) ?_
        refine RQ.pv rfl (PV.mvI (.inl rfl) rfl) ?_
        refine RQ.pv rfl (PV.add rfl rfl rfl (by omega)) ?_
        refine RQ.pv rfl (PV.move (v := qv2) rfl rfl) ?_
        refine RQ.pv rfl (PV.mvI (.inl rfl) rfl) ?_
        refine RQ.pv rfl (PV.idxS (j := i) (v := qv2) rfl Is219 rfl SlF.o rfl (by omega) (by omega)) ?_
        refine RQ.pv rfl (PV.idxA (j := 1) rfl Ia218 rfl rfl (by omega) (by omega)) ?_
        refine RQ.pv rfl (PV.loadF rfl Sc3 rfl rfl (El.o (getG (by omega))) rfl) ?_
        refine RQ.pv rfl (PV.mvI (.inl rfl) rfl) ?_
        refine RQ.pv rfl (PV.add rfl rfl rfl (by omega)) ?_
        refine RQ.pv rfl (PV.mvI (.inr rfl) rfl) ?_
        refine RQ.pv rfl (PV.mvI (.inr rfl) rfl) ?_
        refine RQ.nil ?_
        refine WP.seq ?_
        refine WP.seq ?_
        refine WP.region ?_
        refine RG.pv rfl (PV.mvI (.inl rfl) rfl) ?_
        refine RG.pv rfl (PV.neq rfl rfl rfl) ?_
        refine RG.pv rfl (PV.mvB (.inl rfl) rfl) ?_
        refine RG.gs rfl rfl rfl (fun hp => (PV.mvI (.inl rfl) rfl)) ?_
        refine RG.gs rfl rfl rfl (fun hp => (PV.neq rfl (gs_t hp) rfl)) ?_
        refine RG.pv rfl (PV.pickA rfl rfl (fun hq => gs_t (geqT hq)) rfl) ?_
        refine RG.pv rfl (PV.mvB (.inl rfl) rfl) ?_
        refine RG.gs rfl rfl rfl (fun hp => (PV.mvB (.inl rfl) rfl)) ?_
        refine RG.gs rfl rfl rfl (fun hp => (PV.not rfl (gs_t hp))) ?_
        refine RG.pv rfl (PV.pickA rfl rfl (fun hq => gs_t (geqT hq)) rfl) ?_
        refine RG.pv rfl (PV.mvB (.inl rfl) rfl) ?_
        refine RG.gs rfl rfl rfl (fun hp => (PV.mvI (.inl rfl) rfl)) ?_
        refine RG.gs rfl rfl rfl (fun hp => (PV.lss rfl (gs_t hp) rfl)) ?_
        refine RG.pv rfl (PV.pickO rfl rfl rfl (fun hq => gs_t (geqF hq))) ?_
        refine RG.pv rfl (PV.mvB (.inl rfl) rfl) ?_
        refine RG.gs rfl rfl rfl (fun hp => (PV.mvI (.inl rfl) rfl)) ?_
        refine RG.gs rfl rfl rfl (fun hp => (PV.lss rfl (gs_t hp) rfl)) ?_
        refine RG.pv rfl (PV.pickO rfl rfl rfl (fun hq => gs_t (geqF hq))) ?_
        refine RG.pv rfl (PV.mvB (.inl rfl) rfl) ?_
        refine RG.gs rfl rfl rfl (fun hp => (PV.mvI (.inl rfl) rfl)) ?_
        refine RG.gs rfl rfl rfl (fun hp => (PV.geq rfl (gs_t hp) rfl)) ?_
        refine RG.pv rfl (PV.pickO rfl rfl rfl (fun hq => gs_t (geqF hq))) ?_
        refine RG.pv rfl (PV.mvB (.inl rfl) rfl) ?_
        refine RG.gs rfl rfl rfl (fun hp => (PV.mvI (.inl rfl) rfl)) ?_
        refine RG.gs rfl rfl rfl (fun hp => (PV.geq rfl (gs_t hp) rfl)) ?_
        refine RG.pv rfl (PV.pickO rfl rfl rfl (fun hq => gs_t (geqF hq))) ?_
        refine RG.pv rfl (PV.mvB (.inl rfl) rfl) ?_
        refine RG.gs rfl rfl rfl (fun hp => (PV.mvP (.inl rfl) rfl)) ?_
        refine RG.gs rfl rfl rfl (fun hp => (PV.mvI (.inl rfl) rfl)) ?_
        refine RG.gs rfl rfl rfl (fun hp => (PV.mvI (.inl rfl) rfl)) ?_
        refine RG.gs rfl rfl rfl (fun hp => (PV.nilc rfl (gs_t hp))) ?_
        refine RG.gs rfl rfl rfl (fun hp => (PV.idxA (j := ((gd Q2 i).2 + dy).toNat) rfl Ia168 (gs_t hp) (gs_t hp) (by first | omega | (simp at hp; omega)) (by first | omega | (simp at hp; omega)))) ?_
        refine RG.gs rfl rfl rfl (fun hp => (PV.idxA (j := ((gd Q2 i).1 + dx).toNat) rfl Ia166 (gs_t hp) (gs_t hp) (by first | omega | (simp at hp; omega)) (by first | omega | (simp at hp; omega)))) ?_
        refine RG.gs rfl rfl rfl (fun hp => (PV.loadGr rfl Sc4 (gs_t hp) rfl (by first | omega | (simp at hp; omega)))) ?_
        refine RG.gs rfl rfl rfl (fun hp => (PV.not rfl (gs_t hp))) ?_
        refine RG.pv rfl (PV.pickO rfl rfl rfl (fun hq => gs_t (geqF hq))) ?_
        refine RG.pv rfl (PV.mvB (.inl rfl) rfl) ?_
        refine RG.gs rfl rfl rfl (fun hp => (PV.mvP (.inl rfl) rfl)) ?_
        refine RG.gs rfl rfl rfl (fun hp => (PV.mvI (.inl rfl) rfl)) ?_
        refine RG.gs rfl rfl rfl (fun hp => (PV.mvI (.inl rfl) rfl)) ?_
        refine RG.gs rfl rfl rfl (fun hp => (PV.nilc rfl (gs_t hp))) ?_
        refine RG.gs rfl rfl rfl (fun hp => (PV.idxA (j := ((gd Q2 i).2 + dy).toNat) rfl Ia168 (gs_t hp) (gs_t hp) (by first | omega | (simp at hp; omega)) (by first | omega | (simp at hp; omega)))) ?_
        refine RG.gs rfl rfl rfl (fun hp => (PV.idxA (j := ((gd Q2 i).1 + dx).toNat) rfl Ia166 (gs_t hp) (gs_t hp) (by first | omega | (simp at hp; omega)) (by first | omega | (simp at hp; omega)))) ?_
        refine RG.gs rfl rfl rfl (fun hp => (PV.loadGr rfl Sc4 (gs_t hp) rfl (by first | omega | (simp at hp; omega)))) ?_
        refine RG.pv rfl (PV.pickO rfl rfl rfl (fun hq => gs_t (geqF hq))) ?_
        refine RG.nil ?_
        refine WP.cond rfl (fun h5 => ?_) (fun h5 => ?_)
        · have h6 : (dx ≠ 0 ∧ dy ≠ 0) ∨ (gd Q2 i).1 + dx < 0 ∨ (gd Q2 i).2 + dy < 0 ∨ (gd Q2 i).1 + dx ≥ 80 ∨ (gd Q2 i).2 + dy ≥ 80 ∨ gb S ((gd Q2 i).2 + dy).toNat ((gd Q2 i).1 + dx).toNat = false ∨ gb O2 ((gd Q2 i).2 + dy).toNat ((gd Q2 i).1 + dx).toNat = true := by
            simp only [Bool.or_eq_true, Bool.and_eq_true, decide_eq_true_eq, Bool.not_eq_true', Bool.not_false, or_assoc, and_true, gd_gb, decide_eq_false_iff_not] at h5
            exact h5
          refine WP.exit ?_
          refine WP.region ?_
          refine RG.pv rfl (PV.mvI (.inl rfl) rfl) ?_
          refine RG.pv rfl (PV.add rfl rfl rfl (by omega)) ?_
          refine RG.pv rfl (PV.mvI (.inr rfl) rfl) ?_
          refine RG.nil ?_
          exact ⟨rfl, dx + 1, Q2, O2, qv2, ⟨by omega, hF2, hD2, h02, hi2, hq2, by rw [← hq2] at hN2 ⊢; exact hN2.skip hb2 h6⟩, ⟨rfl, rfl, trivial⟩, ⟨rfl, rfl, rfl, rfl, rfl, trivial⟩, Cv.p, by omega⟩
        · have h6 : (dx = 0 ∨ dy = 0) ∧ 0 ≤ (gd Q2 i).1 + dx ∧ 0 ≤ (gd Q2 i).2 + dy ∧ (gd Q2 i).1 + dx < 80 ∧ (gd Q2 i).2 + dy < 80 ∧ gb S ((gd Q2 i).2 + dy).toNat ((gd Q2 i).1 + dx).toNat = true ∧ gb O2 ((gd Q2 i).2 + dy).toNat ((gd Q2 i).1 + dx).toNat = false := by
            simp only [Bool.or_eq_false_iff, Bool.and_eq_false_iff, decide_eq_false_iff_not, Bool.not_eq_false', Bool.not_false, and_assoc, Bool.true_eq_false, or_false, gd_gb, decide_eq_true_eq] at h5
            obtain ⟨a1, a2, a3, a4, a5, a6, a7⟩ := h5
            exact ⟨by omega, by omega, by omega, by omega, by omega, a6, a7⟩
          obtain ⟨a1, a2, a3, a4, a5, a6, a7⟩ := h6
          refine WP.skip ?_
          refine WP.seq ?_
          refine WP.region ?_
          refine RG.pv rfl (PV.mvP (.inl rfl) rfl) ?_
          refine RG.pv rfl (PV.mvI (.inl rfl) rfl) ?_
          refine RG.pv rfl (PV.mvI (.inl rfl) rfl) ?_
          refine RG.pv rfl (PV.nilc rfl rfl) ?_
          refine RG.pv rfl (PV.idxA (j := ((gd Q2 i).2 + dy).toNat) rfl Ia168 rfl rfl (by omega) (by omega)) ?_
          refine RG.pv rfl (PV.idxA (j := ((gd Q2 i).1 + dx).toNat) rfl Ia166 rfl rfl (by omega) (by omega)) ?_
          refine RG.ot rfl (OT.storeGr rfl Sz4 rfl rfl rfl (by first | omega | (simp; omega)) ?_)
          refine RG.nil ?_
          refine WP.region ?_
          refine RG.pv rfl (PV.move (v := qv2) rfl rfl) ?_
          refine RG.pv rfl (PV.mvI (.inl rfl) rfl) ?_
          refine RG.pv rfl (PV.mvI (.inl rfl) rfl) ?_
          refine RG.pv rfl (PV.buildA (F := intT) (az := [_, _]) rfl Try.underlying218 (by kernel_rfl) ⟨rfl, (Cl.c rfl), ⟨rfl, (Cl.c rfl), trivial⟩⟩) ?_
          refine RG.ot rfl (OT.bslice (F := prT) (els := [⟨_, _⟩]) rfl El219 rfl (by decide) rfl (by decide) ⟨rfl, (Cl.c rfl), trivial⟩ fun v111 => ?_)
          refine RG.ot rfl (OT.append (v := qv2) (u := v111) (F := prT) rfl El219 rfl (by decide) rfl rfl Rs.o (OneL.c (fun _ => rfl)) rfl (by first | omega | (simp <;> omega)) fun v112 => ?_)
          refine RG.pv rfl (PV.asg (v := v112) rfl rfl) ?_
          refine RG.nil ?_
          refine WP.region ?_
          refine RG.pv rfl (PV.mvI (.inl rfl) rfl) ?_
          refine RG.pv rfl (PV.add rfl rfl rfl (by omega)) ?_
          refine RG.pv rfl (PV.mvI (.inr rfl) rfl) ?_
          refine RG.nil ?_
          exact ⟨rfl, dx + 1, (Q2 ++ [((gd Q2 i).1 + dx, (gd Q2 i).2 + dy)]), (O2.set (((gd Q2 i).2 + dy).toNat * 80 + ((gd Q2 i).1 + dx).toNat) true), v112, ⟨by omega, hF2.add ⟨by omega, by omega⟩ ⟨by omega, by omega⟩ a7 a6 hi2 (adj_near hb2 (by omega) a1 (fun e => by have := (hF2.on i hi2).2.2; simp only [qc] at this; rw [e.1, e.2, Int.add_zero, Int.add_zero, this] at a7; cases a7) a2 a3), hD2.add hi2 (fun c hc => on_set hl2 ⟨by omega, by omega⟩ ⟨by omega, by omega⟩ hc), on_set hl2 ⟨by omega, by omega⟩ ⟨by omega, by omega⟩ h02, by simp; omega, by rw [gd_app_l hi2]; exact hq2, by rw [← hq2] at hN2 ⊢; exact hN2.take hl2 hb2 (by omega) (by omega)⟩, ⟨rfl, rfl, trivial⟩, ⟨rfl, rfl, rfl, rfl, rfl, trivial⟩, (Cv.p (C := grd b17 (O2.set (0 + ((gd Q2 i).2 + dy).toNat * 80 + ((gd Q2 i).1 + dx).toNat * 1) true) :: osl 218 prT v112 (Q2 ++ [((gd Q2 i).1 + dx, (gd Q2 i).2 + dy)]) :: grd b S :: L)).trans Cv.grd, by omega⟩
      · have h4 := of_decide_eq_false h4
        refine WP.exit ?_
        refine WP.region ?_
        refine RG.pv rfl (PV.mvI (.inl rfl) rfl) ?_
        refine RG.pv rfl (PV.add rfl rfl rfl (by omega)) ?_
        refine RG.pv rfl (PV.mvI (.inr rfl) rfl) ?_
        refine RG.nil ?_
        exact ⟨rfl, dy + 1, Q2, O2, qv2, ⟨by omega, hF2, hD2, h02, hi2, hq2, by obtain rfl : dx = 2 := (by omega); exact hN2.next⟩, ⟨rfl, rfl, trivial⟩, ⟨rfl, rfl, rfl, rfl, trivial⟩, Cv.p, by omega⟩
    · have h3 := of_decide_eq_false h3
      refine WP.exit ?_
      refine WP.region ?_
      refine RG.pv rfl (PV.mvI (.inl rfl) rfl) ?_
      refine RG.pv rfl (PV.add rfl rfl rfl (by omega)) ?_
      refine RG.pv rfl (PV.mvI (.inr rfl) rfl) ?_
      refine RG.nil ?_
      exact ⟨rfl, i + 1, Q1, O1, qv1, ⟨by omega, hF1, hD1.next (by rw [hq1]) (by obtain rfl : dy = 2 := (by omega); exact hN1), h01⟩, ⟨rfl, rfl, trivial⟩, ⟨rfl, rfl, rfl, trivial⟩, Cv.p, by omega⟩
  · have h2 := of_decide_eq_false h2
    obtain rfl : i = Q.length := by omega
    rw [← hF.final hseed h0 hD] at k
    refine WP.exit ?_
    refine WP.seq ?_
    refine WP.region ?_
    refine RG.pv rfl (PV.mvP (.inl rfl) rfl) ?_
    refine RG.pv rfl (PV.mvP (.inr rfl) rfl) ?_
    refine RG.nil ?_
    refine WP.ret ?_
    exact ⟨_, _, ResV.one rfl rfl, Cv.p, k _⟩
end Go.Proofs.Ytilccgeldnlgnaa
