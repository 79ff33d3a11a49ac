/-
  Contracts: the drawing of numbers, transforms, rectangles and regions.
-/
import Derived.Test.YtilccgeldnlgnaaW13
import Derived.Test.YtilccgeldnlgnaaW17
namespace Go.Proofs.Ytilccgeldnlgnaa
open Go
set_option maxRecDepth 20000
set_option linter.unusedSimpArgs false
variable {G : Gh} {L : List Ch} {R : Value → Gh → List Ch → Prop}

/-! ## the source -/
/-- the source in block b over the code cv -/
def src (b : Nat) (cv : Value) : Ch := fun h => ∃ p : Int × Int, (0 ≤ p.1 ∧ 0 ≤ p.2 ∧ p.2 < 2147483647) ∧ blk b 156 [cv, vi p.1, vi p.2] h
theorem Sep.ex {A : Type} {p : A → Prop} {c : A → Ch} {L : List Ch} {h : Hp} (s : Sep ((fun h => ∃ a, p a ∧ c a h) :: L) h) : ∃ a, p a ∧ Sep (c a :: L) h := by
  obtain ⟨h1, h2, d, l1, l2, ⟨a, ha, hc⟩, s⟩ := s
  exact ⟨a, ha, h1, h2, d, l1, l2, hc, s⟩
theorem CallT.exi {A : Type} {P : Program} {f : FuncId} {args : Array Value} {p : A → Prop} {c : A → Ch} (h : ∀ a, p a → CallT P f args G (c a :: L) R) : CallT P f args G ((fun h => ∃ a, p a ∧ c a h) :: L) R :=
  CallT.of fun w ⟨hp, s, rest⟩ => by
    obtain ⟨a, ha, s⟩ := s.ex
    exact (h a ha).run ⟨hp, s, rest⟩
theorem WP.exi {A : Type} {P : Program} {n : Nat} {c0 : Code} {Q : Post} {σ : Nat → Value} {p : A → Prop} {c : A → Ch} (h : ∀ a, p a → WP P n c0 Q σ G (c a :: L)) : WP P n c0 Q σ G ((fun h => ∃ a, p a ∧ c a h) :: L) :=
  WP.of fun hk x w hx ⟨hp, s, rest⟩ => by
    obtain ⟨a, ha, s⟩ := s.ex
    exact (h a ha).run hk hx ⟨hp, s, rest⟩
theorem Cv.src {b : Nat} {cv : Value} {x y : Int} {L : List Ch} (h : 0 ≤ x ∧ 0 ≤ y ∧ y < 2147483647) : Cv (blk b 156 [cv, vi x, vi y] :: L) (src b cv :: L) := Cv.imp fun hp hc => ⟨(x, y), h, hc⟩
theorem next_s {b : Nat} {n : Int} {cv : Value} {bs : List UInt8} (hcode : SL G byteT cv bs) (hn : n ≤ 4611686018427387904) (k : ∀ r, 0 ≤ r ∧ (r < n ∨ r = 0) → R (vi r) G (src b cv :: L)) : CallT Try.prog 131 #[.pointer (some ⟨b, 0, none⟩), vi n] G (src b cv :: L) R := by
  refine CallT.exi fun ⟨x, y⟩ ⟨hx, hy0, hy1⟩ => ?_
  have hbl := hcode.bound
  refine CallT.enter (args := _) Try.func131 rfl rfl (by kernel_rfl) rfl ?_
  refine WP.seq ?_
  refine WP.region ?_
  refine RG.pv rfl (PV.mvI (.inr rfl) rfl) ?_
  refine RG.nil ?_
  refine WP.seq ?_
  refine WP.seq ?_
  refine WP.region ?_
  refine RG.pv rfl (PV.mvI (.inl rfl) rfl) ?_
  refine RG.pv rfl (PV.leq rfl rfl rfl) ?_
  refine RG.nil ?_
  refine WP.cond rfl (fun h1 => ?_) (fun h1 => ?_)
  · refine WP.seq ?_
    refine WP.region ?_
    refine RG.pv rfl (PV.mvI (.inr rfl) rfl) ?_
    refine RG.nil ?_
    refine WP.ret ?_
    exact ⟨_, _, ResV.one rfl rfl, (Cv.src ⟨hx, hy0, hy1⟩), k _ ⟨by omega, .inr rfl⟩⟩
  · have h1 := of_decide_eq_false h1
    refine WP.skip ?_
    refine WP.seq ?_
    refine WP.seq ?_
    refine WP.regionQ (by kernel_rfl) (by kernel_rfl) ?_
    refine RQ.pv rfl (PV.mvP (.inl rfl) rfl) ?_
    refine RQ.pv rfl (PV.nilc rfl rfl) ?_
    refine RQ.pv rfl (PV.field rfl Fo156_1 rfl) ?_
    refine RQ.pv rfl (PV.load1 rfl Sc3 rfl (Rd.blk rfl)) ?_
    refine RQ.pv rfl (PV.mvP (.inl rfl) rfl) ?_
    refine RQ.pv rfl (PV.nilc rfl rfl) ?_
    refine RQ.pv rfl (PV.field rfl Fo156_0 rfl) ?_
    refine RQ.pv rfl (PV.load1 rfl Sc34 rfl (Rd.blk rfl)) ?_
    refine RQ.pv rfl (PV.len rfl Try.underlying34 rfl (SlF.r (Rs.g (L := []) hcode))) ?_
    refine RQ.pv rfl (PV.lss rfl rfl rfl) ?_
    refine RQ.nil ?_
    refine WP.cond rfl (fun h2 => ?_) (fun h2 => ?_)
    · have h2 := of_decide_eq_true h2
      have hc := (gd bs x.toNat).toNat_lt
      refine WP.seq ?_
      refine WP.regionQ (by kernel_rfl) (by kernel_rfl) ?_
      refine RQ.pv rfl (PV.mvP (.inl rfl) rfl) ?_
      refine RQ.pv rfl (PV.nilc rfl rfl) ?_
      refine RQ.pv rfl (PV.field rfl Fo156_0 rfl) ?_
      refine RQ.pv rfl (PV.load1 rfl Sc34 rfl (Rd.blk rfl)) ?_
      refine RQ.pv rfl (PV.mvP (.inl rfl) rfl) ?_
      refine RQ.pv rfl (PV.nilc rfl rfl) ?_
      refine RQ.pv rfl (PV.field rfl Fo156_1 rfl) ?_
      refine RQ.pv rfl (PV.load1 rfl Sc3 rfl (Rd.blk rfl)) ?_
      refine RQ.pv rfl (PV.idxS (j := x.toNat) rfl Is34 rfl (SlF.r (Rs.g (L := []) hcode)) rfl (by omega) (by omega)) ?_
      refine RQ.pv rfl (PV.loadE1 rfl Sc5 rfl rfl (El.r (Rs.g (L := []) hcode) (getG (by omega))) rfl) ?_
      refine RQ.pv rfl (PV.conv rfl ⟨_, Try.underlying5⟩ Try.underlying2 rfl (u8i _)) ?_
      refine RQ.pv rfl (PV.mvI (.inr rfl) rfl) ?_
      refine RQ.nil ?_
      refine WP.seq ?_
      refine WP.region ?_
      refine RG.pv rfl (PV.mvP (.inl rfl) rfl) ?_
      refine RG.pv rfl (PV.nilc rfl rfl) ?_
      refine RG.pv rfl (PV.field rfl Fo156_1 rfl) ?_
      refine RG.pv rfl (PV.load1 rfl Sc3 rfl (Rd.blk rfl)) ?_
      refine RG.pv rfl (PV.add rfl rfl rfl (by first | omega | exact u8add (by omega))) ?_
      refine RG.pv rfl (PV.nilc rfl rfl) ?_
      refine RG.pv rfl (PV.field rfl Fo156_1 rfl) ?_
      refine RG.ot rfl (OT.storeB (vs := [vi _]) (cs' := [_, _, _]) rfl Sz3 rfl rfl (Cl.c rfl) rfl (OneC.c rfl) rfl rfl ?_)
      refine RG.nil ?_
      refine WP.seq ?_
      refine WP.seq ?_
      refine WP.region ?_
      refine RG.pv rfl (PV.mvI (.inl rfl) rfl) ?_
      refine RG.pv rfl (PV.gtr rfl rfl rfl) ?_
      refine RG.nil ?_
      refine WP.cond rfl (fun h3 => ?_) (fun h3 => ?_)
      · refine WP.seq ?_
        refine WP.region ?_
        refine RG.pv rfl (PV.mvP (.inl rfl) rfl) ?_
        refine RG.pv rfl (PV.mvP (.inl rfl) rfl) ?_
        refine RG.pv rfl (PV.nilc rfl rfl) ?_
        refine RG.pv rfl (PV.field rfl Fo156_2 rfl) ?_
        refine RG.pv rfl (PV.load1 rfl Sc2 rfl (Rd.blk rfl)) ?_
        refine RG.pv rfl (PV.mul rfl rfl rfl (by omega)) ?_
        refine RG.pv rfl (PV.mvI (.inl rfl) rfl) ?_
        refine RG.pv rfl (PV.add rfl rfl rfl (by first | omega | exact u8add (by omega))) ?_
        refine RG.pv rfl (PV.add rfl rfl rfl (by first | omega | exact u8add (by omega))) ?_
        refine RG.pv rfl (PV.rem rfl rfl rfl (by omega) (by omega) (by omega)) ?_
        refine RG.pv rfl (PV.nilc rfl rfl) ?_
        refine RG.pv rfl (PV.field rfl Fo156_2 rfl) ?_
        refine RG.ot rfl (OT.storeB (vs := [vi _]) (cs' := [_, _, _]) rfl Sz2 rfl rfl (Cl.c rfl) rfl (OneC.c rfl) rfl rfl ?_)
        refine RG.nil ?_
        refine WP.seq ?_
        refine WP.region ?_
        refine RG.pv rfl (PV.mvP (.inl rfl) rfl) ?_
        refine RG.pv rfl (PV.nilc rfl rfl) ?_
        refine RG.pv rfl (PV.field rfl Fo156_2 rfl) ?_
        refine RG.pv rfl (PV.load1 rfl Sc2 rfl (Rd.blk rfl)) ?_
        refine RG.pv rfl (PV.mvI (.inl rfl) rfl) ?_
        refine RG.pv rfl (PV.rem rfl rfl rfl (by omega) (by omega) (by omega)) ?_
        refine RG.pv rfl (PV.mvI (.inr rfl) rfl) ?_
        refine RG.nil ?_
        refine WP.ret ?_
        exact ⟨_, _, ResV.one rfl rfl, (Cv.src ⟨by omega, by omega, by omega⟩), k _ ⟨Int.emod_nonneg _ (by omega), .inl (Int.emod_lt_of_pos _ (by omega))⟩⟩
      · refine WP.skip ?_
        refine WP.seq ?_
        refine WP.region ?_
        refine RG.pv rfl (PV.mvI (.inl rfl) rfl) ?_
        refine RG.pv rfl (PV.mvI (.inl rfl) rfl) ?_
        refine RG.pv rfl (PV.rem rfl rfl rfl (by omega) (by omega) (by omega)) ?_
        refine RG.pv rfl (PV.mvI (.inr rfl) rfl) ?_
        refine RG.nil ?_
        refine WP.ret ?_
        exact ⟨_, _, ResV.one rfl rfl, (Cv.src ⟨by omega, by omega, by omega⟩), k _ ⟨Int.emod_nonneg _ (by omega), .inl (Int.emod_lt_of_pos _ (by omega))⟩⟩
    · refine WP.skip ?_
      refine WP.seq ?_
      refine WP.region ?_
      refine RG.pv rfl (PV.mvP (.inl rfl) rfl) ?_
      refine RG.pv rfl (PV.mvP (.inl rfl) rfl) ?_
      refine RG.pv rfl (PV.nilc rfl rfl) ?_
      refine RG.pv rfl (PV.field rfl Fo156_2 rfl) ?_
      refine RG.pv rfl (PV.load1 rfl Sc2 rfl (Rd.blk rfl)) ?_
      refine RG.pv rfl (PV.mul rfl rfl rfl (by omega)) ?_
      refine RG.pv rfl (PV.add rfl rfl rfl (by omega)) ?_
      refine RG.pv rfl (PV.rem rfl rfl rfl (by omega) (by omega) (by omega)) ?_
      refine RG.pv rfl (PV.nilc rfl rfl) ?_
      refine RG.pv rfl (PV.field rfl Fo156_2 rfl) ?_
      refine RG.ot rfl (OT.storeB (vs := [vi _]) (cs' := [_, _, _]) rfl Sz2 rfl rfl (Cl.c rfl) rfl (OneC.c rfl) rfl rfl ?_)
      refine RG.nil ?_
      refine WP.seq ?_
      refine WP.region ?_
      refine RG.pv rfl (PV.mvP (.inl rfl) rfl) ?_
      refine RG.pv rfl (PV.nilc rfl rfl) ?_
      refine RG.pv rfl (PV.field rfl Fo156_2 rfl) ?_
      refine RG.pv rfl (PV.load1 rfl Sc2 rfl (Rd.blk rfl)) ?_
      refine RG.pv rfl (PV.quo rfl rfl rfl (by omega) (by omega) (by omega)) ?_
      refine RG.pv rfl (PV.mvI (.inl rfl) rfl) ?_
      refine RG.pv rfl (PV.rem rfl rfl rfl (by omega) (by omega) (by omega)) ?_
      refine RG.pv rfl (PV.mvI (.inr rfl) rfl) ?_
      refine RG.nil ?_
      refine WP.ret ?_
      exact ⟨_, _, ResV.one rfl rfl, (Cv.src ⟨by omega, by omega, by omega⟩), k _ ⟨Int.emod_nonneg _ (by omega), .inl (Int.emod_lt_of_pos _ (by omega))⟩⟩
theorem from_s {cv : Value} {bs : List UInt8} (hcode : SL G byteT cv bs) (k : ∀ b, R (.pointer (some ⟨b, 0, none⟩)) G (src b cv :: L)) : CallT Try.prog 78 #[cv] G L R := by
  have hbl := hcode.bound
  refine CallT.enter (args := _) Try.func78 rfl rfl (by kernel_rfl) rfl ?_
  refine WP.seq ?_
  refine WP.region ?_
  refine RG.pv rfl (PV.asg rfl rfl) ?_
  refine RG.nil ?_
  refine WP.seq ?_
  refine WP.region ?_
  refine RG.pv rfl (PV.move (v := cv) rfl rfl) ?_
  refine RG.pv rfl (PV.build (vs := [(0, [cv]), (2, [vi _])]) (out := [_, _, _]) rfl Zr156 Pl156 ⟨rfl, (Cl.s (SlF.r (Rs.g (L := []) hcode))), ⟨rfl, (Cl.c rfl), trivial⟩⟩ rfl) ?_
  refine RG.ot rfl (OT.box (cs := [cv, vi 0, vi 12345]) rfl rfl rfl fun b7 => ?_)
  refine RG.pv rfl (PV.mvP (.inr rfl) rfl) ?_
  refine RG.nil ?_
  refine WP.seq ?_
  refine WP.seq ?_
  refine WP.region ?_
  refine RG.pv rfl (PV.mvI (.inr rfl) rfl) ?_
  refine RG.nil ?_
  refine WP.block ?_
  refine WP.loop2 [0, 3] (fun (i : Nat) (y : Int) => i ≤ 64 ∧ 0 ≤ y ∧ y < 2147483647) (fun (i : Nat) (y : Int) => [(4, vi i)]) (fun (i : Nat) (y : Int) => blk b7 156 [cv, vi 0, vi y] :: L) (fun (i : Nat) (y : Int) => 64 - i) 0 12345 ⟨by omega, by omega, by omega⟩ ⟨rfl, trivial⟩ Cv.p ?_
  rintro i y τ ⟨hi, hy0, hy1⟩
  refine WP.seq ?_
  refine WP.seq ?_
  refine WP.region ?_
  refine RG.pv rfl (PV.mvI (.inl rfl) rfl) ?_
  refine RG.pv rfl (PV.move (v := cv) rfl rfl) ?_
  refine RG.pv rfl (PV.len (v := cv) rfl Try.underlying34 rfl (SlF.r (Rs.g (L := []) hcode))) ?_
  refine RG.pv rfl (PV.lss rfl rfl rfl) ?_
  refine RG.pv rfl (PV.mvB (.inl rfl) rfl) ?_
  refine RG.gs rfl rfl rfl (fun hp => (PV.mvI (.inl rfl) rfl)) ?_
  refine RG.gs rfl rfl rfl (fun hp => (PV.lss rfl (gs_t hp) rfl)) ?_
  refine RG.pv rfl (PV.pickA rfl rfl (fun hq => gs_t (geqT hq)) rfl) ?_
  refine RG.nil ?_
  refine WP.cond rfl (fun h2 => ?_) (fun h2 => ?_)
  · simp only [Bool.and_eq_true, decide_eq_true_eq] at h2
    have hc := (gd bs i).toNat_lt
    refine WP.skip ?_
    refine WP.seq ?_
    refine WP.block ?_
    refine WP.regionHD [.b b7] (.q 0 (.q 1 (.q 2 (.q 3 (.q 6 (.q 7 (.q 8 (.q 9 (.q 10 (.l 4 (.q 5 (.q 11 (.q 12 (.q 13 (.q 14 (.l 15 Sch.nil)))))))))))))))) (by kernel_rfl) (by kernel_rfl) (by kernel_rfl) rfl ?_
    refine RH.pv rfl (fun _ _ _ _ h => h) (Gh.le_refl _) PickC.pick rfl (PV.mvP (.inl rfl) rfl) ?_
    refine RH.pv rfl (fun _ _ _ _ h => h) (Gh.le_refl _) PickC.pick rfl (PV.mvP (.inl rfl) rfl) ?_
    refine RH.pv rfl (fun _ _ _ _ h => h) (Gh.le_refl _) PickC.pick rfl (PV.nilc rfl rfl) ?_
    refine RH.pv rfl (fun _ _ _ _ h => h) (Gh.le_refl _) PickC.pick rfl (PV.field rfl Fo156_2 rfl) ?_
    refine RH.pv rfl (fun _ _ _ _ h => h) (Gh.le_refl _) PickC.pick rfl (PV.move (v := cv) rfl rfl) ?_
    refine RH.pv rfl (fun _ _ _ _ h => h) (Gh.le_refl _) PickC.pick rfl (PV.mvI (.inl rfl) rfl) ?_
    refine RH.pv rfl (fun _ _ _ _ h => h) (Gh.le_refl _) PickC.pick rfl (PV.idxS (v := cv) rfl Is34 rfl (SlF.r (Rs.g (L := []) hcode)) rfl rfl (by omega)) ?_
    refine RH.pv rfl (fun _ _ _ _ h => h) (Gh.le_refl _) PickC.pick rfl (PV.loadE1 rfl Sc5 rfl rfl (El.r (Rs.g (L := []) hcode) (getG (by omega))) rfl) ?_
    refine RH.pv rfl (fun _ _ _ _ h => h) (Gh.le_refl _) PickC.pick rfl (PV.conv rfl ⟨_, Try.underlying5⟩ Try.underlying2 rfl (u8i _)) ?_
    refine RH.ot rfl rfl (OT.pv (PV.load1 rfl Sc2 rfl (Rd.blk rfl)) ⟨Gh.le_refl _, PickC.pick, ?_⟩)
    refine RH.pv rfl (fun _ _ _ _ h => h) (Gh.le_refl _) PickC.pick rfl (PV.mul rfl rfl rfl (by omega)) ?_
    refine RH.pv rfl (fun _ _ _ _ h => h) (Gh.le_refl _) PickC.pick rfl (PV.add rfl rfl rfl (by first | omega | exact u8add (by omega))) ?_
    refine RH.pv rfl (fun _ _ _ _ h => h) (Gh.le_refl _) PickC.pick rfl (PV.rem rfl rfl rfl (by omega) (by omega) (by omega)) ?_
    refine RH.pv rfl (fun _ _ _ _ h => h) (Gh.le_refl _) PickC.pick rfl (PV.nilc rfl rfl) ?_
    refine RH.pv rfl (fun _ _ _ _ h => h) (Gh.le_refl _) PickC.pick rfl (PV.field rfl Fo156_2 rfl) ?_
    refine RH.ot rfl rfl (OT.storeB (vs := [vi _]) (cs' := [_, _, _]) rfl Sz2 rfl rfl (Cl.c rfl) rfl (OneC.c rfl) rfl rfl ⟨Gh.le_refl _, PickC.pick, ?_⟩)
    refine RH.nil ?_
    refine WP.region ?_
    refine RG.pv rfl (PV.mvI (.inl rfl) rfl) ?_
    refine RG.pv rfl (PV.add rfl rfl rfl (by first | omega | exact u8add (by omega))) ?_
    refine RG.pv rfl (PV.mvI (.inr rfl) rfl) ?_
    refine RG.nil ?_
    exact ⟨rfl, i + 1, ((y * 31 + ((gd bs i).toNat : Int)) % 2147483647), ⟨by omega, by omega, by omega⟩, ⟨rfl, trivial⟩, ⟨rfl, rfl, trivial⟩, Cv.p, by omega⟩
  · refine WP.exit ?_
    refine WP.seq ?_
    refine WP.region ?_
    refine RG.pv rfl (PV.mvP (.inl rfl) rfl) ?_
    refine RG.pv rfl (PV.mvP (.inr rfl) rfl) ?_
    refine RG.nil ?_
    refine WP.ret ?_
    exact ⟨_, _, ResV.one rfl rfl, (Cv.src ⟨by omega, hy0, hy1⟩), k b7⟩
theorem drawTrans_s {b : Nat} {cv : Value} {bs : List UInt8} (hcode : SL G byteT cv bs) (k : ∀ t : Trans, (0 ≤ t.o ∧ t.o ≤ 7) ∧ (-100 ≤ t.x ∧ t.x ≤ 100 ∧ -100 ≤ t.y ∧ t.y ≤ 100) → R (vtrans t) G (src b cv :: L)) : CallT Try.prog 79 #[.pointer (some ⟨b, 0, none⟩)] G (src b cv :: L) R := by
  refine CallT.enter (args := _) Try.func79 rfl rfl (by kernel_rfl) rfl ?_
  refine WP.seq ?_
  refine WP.region ?_
  refine RG.ot rfl (OT.alloc rfl Zr37 fun b2 => ?_)
  refine RG.nil ?_
  refine WP.seq ?_
  refine WP.region ?_
  refine RG.pv rfl (PV.move rfl rfl) ?_
  refine RG.callF (vs := [_, _]) rfl rfl En131 rfl (CallT.exC (src b cv) (next_s hcode (by omega) (fun w5 hw5 => ?_)))
  refine RG.pv rfl (PV.move rfl rfl) ?_
  refine RG.callF (vs := [_, _]) rfl rfl En131 rfl (CallT.exC (src b cv) (next_s hcode (by omega) (fun w7 hw7 => ?_)))
  refine RG.pv rfl (PV.sub rfl rfl rfl (by omega)) ?_
  refine RG.pv rfl (PV.move rfl rfl) ?_
  refine RG.callF (vs := [_, _]) rfl rfl En131 rfl (CallT.exC (src b cv) (next_s hcode (by omega) (fun w10 hw10 => ?_)))
  refine RG.pv rfl (PV.sub rfl rfl rfl (by omega)) ?_
  refine RG.pv rfl (PV.build (vs := [(0, [vi _]), (1, [vi _]), (2, [vi _])]) (out := [_, _, _]) rfl Zr37 Pl37 ⟨rfl, (Cl.c rfl), ⟨rfl, (Cl.c rfl), ⟨rfl, (Cl.c rfl), trivial⟩⟩⟩ rfl) ?_
  refine RG.ot rfl (OT.alloc rfl Zr37 fun b3 => ?_)
  refine RG.ot rfl (OT.storeW (vs := [vi _, vi _, vi _]) rfl Sz37 rfl rfl (Cl.c rfl) rfl rfl (OneC.c rfl) ?_)
  refine RG.nil ?_
  refine WP.seq ?_
  refine WP.seq ?_
  refine WP.region ?_
  refine RG.pv rfl (PV.move rfl rfl) ?_
  refine RG.callF (vs := [_, _]) rfl rfl En131 rfl (CallT.exC (src b cv) (next_s hcode (by omega) (fun w14 hw14 => ?_)))
  refine RG.pv rfl (PV.eql rfl rfl rfl) ?_
  refine RG.nil ?_
  refine WP.cond rfl (fun h1 => ?_) (fun h1 => ?_)
  · refine WP.region ?_
    refine RG.pv rfl (PV.move rfl rfl) ?_
    refine RG.callF (vs := [_, _]) rfl rfl En131 rfl (CallT.exC (src b cv) (next_s hcode (by omega) (fun w17 hw17 => ?_)))
    refine RG.pv rfl (PV.sub rfl rfl rfl (by omega)) ?_
    refine RG.pv rfl (PV.sub rfl rfl rfl (by omega)) ?_
    refine RG.pv rfl (PV.field rfl Fo37_1 rfl) ?_
    refine RG.ot rfl (OT.storeB (vs := [vi _]) (cs' := [_, _, _]) rfl Sz2 rfl rfl (Cl.c rfl) rfl (OneC.c rfl) rfl rfl ?_)
    refine RG.nil ?_
    refine WP.seq ?_
    refine WP.region ?_
    refine RG.pv rfl (PV.loadW rfl Ag37 rfl rfl) ?_
    refine RG.ot rfl (OT.storeW (vs := [vi _, vi _, vi _]) rfl Sz37 rfl rfl (Cl.c rfl) rfl rfl (OneC.c rfl) ?_)
    refine RG.nil ?_
    refine WP.ret ?_
    exact ⟨_, _, ResV.one rfl (RV1.cell rfl Ag37 rfl), Cv.p, k ⟨w5, w17 - 80 - 1, w10 - 12⟩ (by simp only; omega)⟩
  · refine WP.skip ?_
    refine WP.seq ?_
    refine WP.region ?_
    refine RG.pv rfl (PV.loadW rfl Ag37 rfl rfl) ?_
    refine RG.ot rfl (OT.storeW (vs := [vi _, vi _, vi _]) rfl Sz37 rfl rfl (Cl.c rfl) rfl rfl (OneC.c rfl) ?_)
    refine RG.nil ?_
    refine WP.ret ?_
    exact ⟨_, _, ResV.one rfl (RV1.cell rfl Ag37 rfl), Cv.p, k ⟨w5, w7 - 12, w10 - 12⟩ (by simp only; omega)⟩
theorem drawRect_s {b : Nat} {cv : Value} {bs : List UInt8} (hcode : SL G byteT cv bs) (k : ∀ r : Rect, validRect r = true → R (vrect r) G (src b cv :: L)) : CallT Try.prog 133 #[.pointer (some ⟨b, 0, none⟩)] G (src b cv :: L) R := by
  refine CallT.enter (args := _) Try.func133 rfl rfl (by kernel_rfl) rfl ?_
  refine WP.seq ?_
  refine WP.region ?_
  refine RG.ot rfl (OT.alloc rfl Zr81 fun b2 => ?_)
  refine RG.nil ?_
  refine WP.seq ?_
  refine WP.region ?_
  refine RG.pv rfl (PV.move rfl rfl) ?_
  refine RG.callF (vs := [_, _]) rfl rfl En131 rfl (CallT.exC (src b cv) (next_s hcode (by omega) (fun w8 hw8 => ?_)))
  refine RG.pv rfl (PV.sub rfl rfl rfl (by omega)) ?_
  refine RG.pv rfl (PV.mvI (.inr rfl) rfl) ?_
  refine RG.nil ?_
  refine WP.seq ?_
  refine WP.region ?_
  refine RG.pv rfl (PV.move rfl rfl) ?_
  refine RG.callF (vs := [_, _]) rfl rfl En131 rfl (CallT.exC (src b cv) (next_s hcode (by omega) (fun w11 hw11 => ?_)))
  refine RG.pv rfl (PV.sub rfl rfl rfl (by omega)) ?_
  refine RG.pv rfl (PV.mvI (.inr rfl) rfl) ?_
  refine RG.nil ?_
  refine WP.seq ?_
  refine WP.seq ?_
  refine WP.region ?_
  refine RG.pv rfl (PV.move rfl rfl) ?_
  refine RG.callF (vs := [_, _]) rfl rfl En131 rfl (CallT.exC (src b cv) (next_s hcode (by omega) (fun w14 hw14 => ?_)))
  refine RG.pv rfl (PV.eql rfl rfl rfl) ?_
  refine RG.nil ?_
  refine WP.cond rfl (fun h1 => ?_) (fun h1 => ?_)
  · refine WP.region ?_
    refine RG.pv rfl (PV.move rfl rfl) ?_
    refine RG.callF (vs := [_, _]) rfl rfl En131 rfl (CallT.exC (src b cv) (next_s hcode (by omega) (fun w17 hw17 => ?_)))
    refine RG.pv rfl (PV.sub rfl rfl rfl (by omega)) ?_
    refine RG.pv rfl (PV.mvI (.inr rfl) rfl) ?_
    refine RG.nil ?_
    refine WP.seq ?_
    refine WP.seq ?_
    refine WP.region ?_
    refine RG.pv rfl (PV.move rfl rfl) ?_
    refine RG.callF (vs := [_, _]) rfl rfl En131 rfl (CallT.exC (src b cv) (next_s hcode (by omega) (fun w20 hw20 => ?_)))
    refine RG.pv rfl (PV.eql rfl rfl rfl) ?_
    refine RG.nil ?_
    refine WP.cond rfl (fun h2 => ?_) (fun h2 => ?_)
    · refine WP.region ?_
      refine RG.pv rfl (PV.mvI (.inr rfl) rfl) ?_
      refine RG.nil ?_
      refine WP.seq ?_
      refine WP.region ?_
      refine RG.pv rfl (PV.move rfl rfl) ?_
      refine RG.callF (vs := [_, _]) rfl rfl En131 rfl (CallT.exC (src b cv) (next_s hcode (by omega) (fun w23 hw23 => ?_)))
      refine RG.pv rfl (PV.add rfl rfl rfl (by omega)) ?_
      refine RG.pv rfl (PV.mvI (.inr rfl) rfl) ?_
      refine RG.nil ?_
      refine WP.seq ?_
      refine WP.region ?_
      refine RG.pv rfl (PV.move rfl rfl) ?_
      refine RG.callF (vs := [_, _]) rfl rfl En131 rfl (CallT.exC (src b cv) (next_s hcode (by omega) (fun w26 hw26 => ?_)))
      refine RG.pv rfl (PV.add rfl rfl rfl (by omega)) ?_
      refine RG.pv rfl (PV.mvI (.inr rfl) rfl) ?_
      refine RG.nil ?_
      refine WP.seq ?_
      refine WP.region ?_
      refine RG.pv rfl (PV.mvI (.inl rfl) rfl) ?_
      refine RG.pv rfl (PV.mvI (.inl rfl) rfl) ?_
      refine RG.pv rfl (PV.mvI (.inl rfl) rfl) ?_
      refine RG.pv rfl (PV.mvI (.inl rfl) rfl) ?_
      refine RG.pv rfl (PV.add rfl rfl rfl (by omega)) ?_
      refine RG.pv rfl (PV.min2 rfl rfl rfl) ?_
      refine RG.pv rfl (PV.mvI (.inl rfl) rfl) ?_
      refine RG.pv rfl (PV.mvI (.inl rfl) rfl) ?_
      refine RG.pv rfl (PV.add rfl rfl rfl (by omega)) ?_
      refine RG.pv rfl (PV.min2 rfl rfl rfl) ?_
      refine RG.pv rfl (PV.build (vs := [(0, [vi _]), (1, [vi _]), (2, [vi _]), (3, [vi _])]) (out := [_, _, _, _]) rfl Zr81 Pl81 ⟨rfl, (Cl.c rfl), ⟨rfl, (Cl.c rfl), ⟨rfl, (Cl.c rfl), ⟨rfl, (Cl.c rfl), trivial⟩⟩⟩⟩ rfl) ?_
      refine RG.ot rfl (OT.storeW (vs := [vi _, vi _, vi _, vi _]) rfl Sz81 rfl rfl (Cl.c rfl) rfl rfl (OneC.c rfl) ?_)
      refine RG.nil ?_
      refine WP.ret ?_
      exact ⟨_, _, ResV.one rfl (RV1.cell rfl Ag81 rfl), Cv.p, k ⟨39 - w17, -40, min 40 (39 - w17 + (w23 + 1)), min 40 (-40 + (w26 + 1))⟩ (by simp [validRect]; omega)⟩
    · refine WP.skip ?_
      refine WP.seq ?_
      refine WP.region ?_
      refine RG.pv rfl (PV.move rfl rfl) ?_
      refine RG.callF (vs := [_, _]) rfl rfl En131 rfl (CallT.exC (src b cv) (next_s hcode (by omega) (fun w23 hw23 => ?_)))
      refine RG.pv rfl (PV.add rfl rfl rfl (by omega)) ?_
      refine RG.pv rfl (PV.mvI (.inr rfl) rfl) ?_
      refine RG.nil ?_
      refine WP.seq ?_
      refine WP.region ?_
      refine RG.pv rfl (PV.move rfl rfl) ?_
      refine RG.callF (vs := [_, _]) rfl rfl En131 rfl (CallT.exC (src b cv) (next_s hcode (by omega) (fun w26 hw26 => ?_)))
      refine RG.pv rfl (PV.add rfl rfl rfl (by omega)) ?_
      refine RG.pv rfl (PV.mvI (.inr rfl) rfl) ?_
      refine RG.nil ?_
      refine WP.seq ?_
      refine WP.region ?_
      refine RG.pv rfl (PV.mvI (.inl rfl) rfl) ?_
      refine RG.pv rfl (PV.mvI (.inl rfl) rfl) ?_
      refine RG.pv rfl (PV.mvI (.inl rfl) rfl) ?_
      refine RG.pv rfl (PV.mvI (.inl rfl) rfl) ?_
      refine RG.pv rfl (PV.add rfl rfl rfl (by omega)) ?_
      refine RG.pv rfl (PV.min2 rfl rfl rfl) ?_
      refine RG.pv rfl (PV.mvI (.inl rfl) rfl) ?_
      refine RG.pv rfl (PV.mvI (.inl rfl) rfl) ?_
      refine RG.pv rfl (PV.add rfl rfl rfl (by omega)) ?_
      refine RG.pv rfl (PV.min2 rfl rfl rfl) ?_
      refine RG.pv rfl (PV.build (vs := [(0, [vi _]), (1, [vi _]), (2, [vi _]), (3, [vi _])]) (out := [_, _, _, _]) rfl Zr81 Pl81 ⟨rfl, (Cl.c rfl), ⟨rfl, (Cl.c rfl), ⟨rfl, (Cl.c rfl), ⟨rfl, (Cl.c rfl), trivial⟩⟩⟩⟩ rfl) ?_
      refine RG.ot rfl (OT.storeW (vs := [vi _, vi _, vi _, vi _]) rfl Sz81 rfl rfl (Cl.c rfl) rfl rfl (OneC.c rfl) ?_)
      refine RG.nil ?_
      refine WP.ret ?_
      exact ⟨_, _, ResV.one rfl (RV1.cell rfl Ag81 rfl), Cv.p, k ⟨39 - w17, w11 - 12, min 40 (39 - w17 + (w23 + 1)), min 40 (w11 - 12 + (w26 + 1))⟩ (by simp [validRect]; omega)⟩
  · refine WP.skip ?_
    refine WP.seq ?_
    refine WP.seq ?_
    refine WP.region ?_
    refine RG.pv rfl (PV.move rfl rfl) ?_
    refine RG.callF (vs := [_, _]) rfl rfl En131 rfl (CallT.exC (src b cv) (next_s hcode (by omega) (fun w20 hw20 => ?_)))
    refine RG.pv rfl (PV.eql rfl rfl rfl) ?_
    refine RG.nil ?_
    refine WP.cond rfl (fun h2 => ?_) (fun h2 => ?_)
    · refine WP.region ?_
      refine RG.pv rfl (PV.mvI (.inr rfl) rfl) ?_
      refine RG.nil ?_
      refine WP.seq ?_
      refine WP.region ?_
      refine RG.pv rfl (PV.move rfl rfl) ?_
      refine RG.callF (vs := [_, _]) rfl rfl En131 rfl (CallT.exC (src b cv) (next_s hcode (by omega) (fun w23 hw23 => ?_)))
      refine RG.pv rfl (PV.add rfl rfl rfl (by omega)) ?_
      refine RG.pv rfl (PV.mvI (.inr rfl) rfl) ?_
      refine RG.nil ?_
      refine WP.seq ?_
      refine WP.region ?_
      refine RG.pv rfl (PV.move rfl rfl) ?_
      refine RG.callF (vs := [_, _]) rfl rfl En131 rfl (CallT.exC (src b cv) (next_s hcode (by omega) (fun w26 hw26 => ?_)))
      refine RG.pv rfl (PV.add rfl rfl rfl (by omega)) ?_
      refine RG.pv rfl (PV.mvI (.inr rfl) rfl) ?_
      refine RG.nil ?_
      refine WP.seq ?_
      refine WP.region ?_
      refine RG.pv rfl (PV.mvI (.inl rfl) rfl) ?_
      refine RG.pv rfl (PV.mvI (.inl rfl) rfl) ?_
      refine RG.pv rfl (PV.mvI (.inl rfl) rfl) ?_
      refine RG.pv rfl (PV.mvI (.inl rfl) rfl) ?_
      refine RG.pv rfl (PV.add rfl rfl rfl (by omega)) ?_
      refine RG.pv rfl (PV.min2 rfl rfl rfl) ?_
      refine RG.pv rfl (PV.mvI (.inl rfl) rfl) ?_
      refine RG.pv rfl (PV.mvI (.inl rfl) rfl) ?_
      refine RG.pv rfl (PV.add rfl rfl rfl (by omega)) ?_
      refine RG.pv rfl (PV.min2 rfl rfl rfl) ?_
      refine RG.pv rfl (PV.build (vs := [(0, [vi _]), (1, [vi _]), (2, [vi _]), (3, [vi _])]) (out := [_, _, _, _]) rfl Zr81 Pl81 ⟨rfl, (Cl.c rfl), ⟨rfl, (Cl.c rfl), ⟨rfl, (Cl.c rfl), ⟨rfl, (Cl.c rfl), trivial⟩⟩⟩⟩ rfl) ?_
      refine RG.ot rfl (OT.storeW (vs := [vi _, vi _, vi _, vi _]) rfl Sz81 rfl rfl (Cl.c rfl) rfl rfl (OneC.c rfl) ?_)
      refine RG.nil ?_
      refine WP.ret ?_
      exact ⟨_, _, ResV.one rfl (RV1.cell rfl Ag81 rfl), Cv.p, k ⟨w8 - 12, -40, min 40 (w8 - 12 + (w23 + 1)), min 40 (-40 + (w26 + 1))⟩ (by simp [validRect]; omega)⟩
    · refine WP.skip ?_
      refine WP.seq ?_
      refine WP.region ?_
      refine RG.pv rfl (PV.move rfl rfl) ?_
      refine RG.callF (vs := [_, _]) rfl rfl En131 rfl (CallT.exC (src b cv) (next_s hcode (by omega) (fun w23 hw23 => ?_)))
      refine RG.pv rfl (PV.add rfl rfl rfl (by omega)) ?_
      refine RG.pv rfl (PV.mvI (.inr rfl) rfl) ?_
      refine RG.nil ?_
      refine WP.seq ?_
      refine WP.region ?_
      refine RG.pv rfl (PV.move rfl rfl) ?_
      refine RG.callF (vs := [_, _]) rfl rfl En131 rfl (CallT.exC (src b cv) (next_s hcode (by omega) (fun w26 hw26 => ?_)))
      refine RG.pv rfl (PV.add rfl rfl rfl (by omega)) ?_
      refine RG.pv rfl (PV.mvI (.inr rfl) rfl) ?_
      refine RG.nil ?_
      refine WP.seq ?_
      refine WP.region ?_
      refine RG.pv rfl (PV.mvI (.inl rfl) rfl) ?_
      refine RG.pv rfl (PV.mvI (.inl rfl) rfl) ?_
      refine RG.pv rfl (PV.mvI (.inl rfl) rfl) ?_
      refine RG.pv rfl (PV.mvI (.inl rfl) rfl) ?_
      refine RG.pv rfl (PV.add rfl rfl rfl (by omega)) ?_
      refine RG.pv rfl (PV.min2 rfl rfl rfl) ?_
      refine RG.pv rfl (PV.mvI (.inl rfl) rfl) ?_
      refine RG.pv rfl (PV.mvI (.inl rfl) rfl) ?_
      refine RG.pv rfl (PV.add rfl rfl rfl (by omega)) ?_
      refine RG.pv rfl (PV.min2 rfl rfl rfl) ?_
      refine RG.pv rfl (PV.build (vs := [(0, [vi _]), (1, [vi _]), (2, [vi _]), (3, [vi _])]) (out := [_, _, _, _]) rfl Zr81 Pl81 ⟨rfl, (Cl.c rfl), ⟨rfl, (Cl.c rfl), ⟨rfl, (Cl.c rfl), ⟨rfl, (Cl.c rfl), trivial⟩⟩⟩⟩ rfl) ?_
      refine RG.ot rfl (OT.storeW (vs := [vi _, vi _, vi _, vi _]) rfl Sz81 rfl rfl (Cl.c rfl) rfl rfl (OneC.c rfl) ?_)
      refine RG.nil ?_
      refine WP.ret ?_
      exact ⟨_, _, ResV.one rfl (RV1.cell rfl Ag81 rfl), Cv.p, k ⟨w8 - 12, w11 - 12, min 40 (w8 - 12 + (w23 + 1)), min 40 (w11 - 12 + (w26 + 1))⟩ (by simp [validRect]; omega)⟩
theorem drawRegion_s {b : Nat} {cv : Value} {bs : List UInt8} (hcode : SL G byteT cv bs) (k : ∀ v' xs, isReg xs = true → R v' G (osl 81 rectT v' xs :: src b cv :: L)) : CallT Try.prog 81 #[.pointer (some ⟨b, 0, none⟩)] G (src b cv :: L) R := by
  refine CallT.enter (args := _) Try.func81 rfl rfl (by kernel_rfl) rfl ?_
  refine WP.seq ?_
  refine WP.region ?_
  refine RG.pv rfl (PV.asg rfl rfl) ?_
  refine RG.nil ?_
  refine WP.seq ?_
  refine WP.region ?_
  refine RG.ot rfl (OT.bslice (F := rectT) (els := []) rfl El24 rfl (by decide) rfl (by decide) trivial fun v5 => ?_)
  refine RG.pv rfl (PV.asg (v := v5) rfl rfl) ?_
  refine RG.nil ?_
  refine WP.seq ?_
  refine WP.seq ?_
  refine WP.region ?_
  refine RG.pv rfl (PV.move rfl rfl) ?_
  refine RG.callF (vs := [_, _]) rfl rfl En131 rfl (CallT.exC (src b cv) (next_s hcode (by omega) (fun w7 hw7 => ?_)))
  refine RG.pv rfl (PV.move rfl rfl) ?_
  refine RG.callF (vs := [_, _]) rfl rfl En131 rfl (CallT.exC (src b cv) (next_s hcode (by omega) (fun w9 hw9 => ?_)))
  refine RG.pv rfl (PV.add rfl rfl rfl (by omega)) ?_
  refine RG.pv rfl (PV.mvI (.inr rfl) rfl) ?_
  refine RG.nil ?_
  refine WP.block ?_
  refine WP.loop3 [0] (fun (n : Int) (ys : List Rect) (u : Value) => (0 ≤ n ∧ n ≤ 100) ∧ (ys.length : Int) + n ≤ 100 ∧ ∀ i, i < ys.length → validRect (gd ys i) = true) (fun (n : Int) (ys : List Rect) (u : Value) => [(4, vi n), (3, u)]) (fun (n : Int) (ys : List Rect) (u : Value) => osl 81 rectT u ys :: src b cv :: L) (fun (n : Int) (ys : List Rect) (u : Value) => n.toNat) (w7 + w9) [] v5 ⟨by omega, by simp; omega, fun i hi => by simp at hi⟩ ⟨rfl, rfl, trivial⟩ Cv.p ?_
  rintro n ys u τ ⟨hn, hyl, hval⟩
  refine WP.seq ?_
  refine WP.seq ?_
  refine WP.region ?_
  refine RG.pv rfl (PV.mvI (.inl rfl) rfl) ?_
  refine RG.pv rfl (PV.gtr rfl rfl rfl) ?_
  refine RG.nil ?_
  refine WP.cond rfl (fun h2 => ?_) (fun h2 => ?_)
  · have h2 := of_decide_eq_true h2
    refine WP.skip ?_
    refine WP.seq ?_
    refine WP.block ?_
    refine WP.region ?_
    refine RG.pv rfl (PV.move (v := u) rfl rfl) ?_
    refine RG.pv rfl (PV.move rfl rfl) ?_
    refine RG.callF (vs := [_]) rfl rfl En133 rfl (CallT.exC (src b cv) (drawRect_s hcode (fun w17 hw17 => ?_)))
    refine RG.ot rfl (OT.bslice (F := rectT) (els := [_]) rfl El24 rfl (by decide) rfl (by decide) ⟨rfl, (Cl.c rfl), trivial⟩ fun v18 => ?_)
    refine RG.ot rfl (OT.append (v := u) (u := v18) (F := rectT) rfl El24 rfl (by decide) rfl rfl Rs.o (OneL.c (fun _ => rfl)) rfl (by first | omega | (simp <;> omega)) fun v19 => ?_)
    refine RG.pv rfl (PV.asg (v := v19) rfl rfl) ?_
    refine RG.nil ?_
    refine WP.region ?_
    refine RG.pv rfl (PV.mvI (.inl rfl) rfl) ?_
    refine RG.pv rfl (PV.sub rfl rfl rfl (by omega)) ?_
    refine RG.pv rfl (PV.mvI (.inr rfl) rfl) ?_
    refine RG.nil ?_
    refine ⟨rfl, n - 1, (ys ++ [w17]), v19, ⟨by omega, by simp; omega, fun i hi => ?_⟩, ⟨rfl, rfl, trivial⟩, ⟨rfl, trivial⟩, Cv.p, by omega⟩
    by_cases c : i = ys.length
    · subst c; simpa [gd] using hw17
    · have := hval i (by simp at hi; omega)
      simpa [gd, List.getElem?_append_left (show i < ys.length by simp at hi; omega)] using this
  · refine WP.exit ?_
    refine WP.seq ?_
    refine WP.region ?_
    refine RG.pv rfl (PV.move (v := u) rfl rfl) ?_
    refine RG.callF (vs := [u]) rfl rfl En70 rfl (l03Bits_s Rs.o hval (fun v21 => ?_))
    refine RG.callF (vs := [v21]) rfl rfl En73 rfl (l03Canon_s Rs.o (bits_length _) (fun v22 => ?_))
    refine RG.pv rfl (PV.asg (v := v22) rfl rfl) ?_
    refine RG.nil ?_
    refine WP.ret ?_
    exact ⟨_, _, ResV.one rfl rfl, Cv.p, k v22 (canon (bits ys)) (isReg_canon (bits_length _))⟩
theorem spoilRect_s {b : Nat} {n : Int} {cv : Value} {r : Rect} {bs : List UInt8} (hcode : SL G byteT cv bs) (hr : validRect r = true) (hn : n ≤ 1000) (k : ∀ r' : Rect, R (vrect r') G (src b cv :: L)) : CallT Try.prog 132 #[.pointer (some ⟨b, 0, none⟩), vrect r, vi n] G (src b cv :: L) R := by
  have hv := valid_bd hr
  refine CallT.enter (args := _) Try.func132 rfl rfl (by kernel_rfl) rfl ?_
  refine WP.seq ?_
  refine WP.region ?_
  refine RG.ot rfl (OT.box (cs := rectT.enc r) rfl rfl rfl fun b4 => ?_)
  refine RG.ot rfl (OT.alloc rfl Zr81 fun b6 => ?_)
  refine RG.nil ?_
  refine WP.seq ?_
  refine WP.seq ?_
  refine WP.region ?_
  refine RG.pv rfl (PV.move rfl rfl) ?_
  refine RG.pv rfl (PV.mvI (.inl rfl) rfl) ?_
  refine RG.callF (vs := [_, _]) rfl rfl En131 rfl (CallT.exC (src b cv) (next_s hcode (by omega) (fun w9 hw9 => ?_)))
  refine RG.pv rfl (PV.neq rfl rfl rfl) ?_
  refine RG.nil ?_
  refine WP.cond rfl (fun h1 => ?_) (fun h1 => ?_)
  · refine WP.seq ?_
    refine WP.region ?_
    refine RG.pv rfl (PV.loadW rfl Ag81 rfl rfl) ?_
    refine RG.ot rfl (OT.storeW (vs := [vi _, vi _, vi _, vi _]) rfl Sz81 rfl rfl (Cl.c rfl) rfl rfl (OneC.c rfl) ?_)
    refine RG.nil ?_
    refine WP.ret ?_
    exact ⟨_, _, ResV.one rfl (RV1.cell rfl Ag81 rfl), Cv.p, k r⟩
  · refine WP.skip ?_
    refine WP.seq ?_
    refine WP.seq ?_
    refine WP.region ?_
    refine RG.pv rfl (PV.move rfl rfl) ?_
    refine RG.callF (vs := [_, _]) rfl rfl En131 rfl (CallT.exC (src b cv) (next_s hcode (by omega) (fun w13 hw13 => ?_)))
    refine RG.nil ?_
    refine WP.block ?_
    refine WP.seq ?_
    refine WP.region ?_
    refine RG.pv rfl (PV.eql rfl rfl rfl) ?_
    refine RG.pv rfl (PV.mvB (.inr rfl) rfl) ?_
    refine RG.nil ?_
    refine WP.cond rfl (fun h2 => ?_) (fun h2 => ?_)
    · refine WP.region ?_
      refine RG.pv rfl (PV.field rfl Fo81_0 rfl) ?_
      refine RG.pv rfl (PV.load1 rfl Sc2 rfl (Rd.blk rfl)) ?_
      refine RG.pv rfl (PV.field rfl Fo81_2 rfl) ?_
      refine RG.ot rfl (OT.storeB (vs := [vi _]) (cs' := [_, _, _, _]) rfl Sz2 rfl rfl (Cl.c rfl) rfl (OneC.c rfl) rfl rfl ?_)
      refine RG.nil ?_
      refine WP.seq ?_
      refine WP.region ?_
      refine RG.pv rfl (PV.loadW rfl Ag81 rfl rfl) ?_
      refine RG.ot rfl (OT.storeW (vs := [vi _, vi _, vi _, vi _]) rfl Sz81 rfl rfl (Cl.c rfl) rfl rfl (OneC.c rfl) ?_)
      refine RG.nil ?_
      refine WP.ret ?_
      exact ⟨_, _, ResV.one rfl (RV1.cell rfl Ag81 rfl), Cv.p, k ⟨r.x0, r.y0, r.x0, r.y1⟩⟩
    · refine WP.seq ?_
      refine WP.region ?_
      refine RG.pv rfl (PV.eql rfl rfl rfl) ?_
      refine RG.pv rfl (PV.mvB (.inr rfl) rfl) ?_
      refine RG.nil ?_
      refine WP.cond rfl (fun h3 => ?_) (fun h3 => ?_)
      · refine WP.region ?_
        refine RG.pv rfl (PV.field rfl Fo81_1 rfl) ?_
        refine RG.pv rfl (PV.load1 rfl Sc2 rfl (Rd.blk rfl)) ?_
        refine RG.pv rfl (PV.sub rfl rfl rfl (by omega)) ?_
        refine RG.pv rfl (PV.field rfl Fo81_3 rfl) ?_
        refine RG.ot rfl (OT.storeB (vs := [vi _]) (cs' := [_, _, _, _]) rfl Sz2 rfl rfl (Cl.c rfl) rfl (OneC.c rfl) rfl rfl ?_)
        refine RG.nil ?_
        refine WP.seq ?_
        refine WP.region ?_
        refine RG.pv rfl (PV.loadW rfl Ag81 rfl rfl) ?_
        refine RG.ot rfl (OT.storeW (vs := [vi _, vi _, vi _, vi _]) rfl Sz81 rfl rfl (Cl.c rfl) rfl rfl (OneC.c rfl) ?_)
        refine RG.nil ?_
        refine WP.ret ?_
        exact ⟨_, _, ResV.one rfl (RV1.cell rfl Ag81 rfl), Cv.p, k ⟨r.x0, r.y0, r.x1, r.y0 - 1⟩⟩
      · refine WP.seq ?_
        refine WP.region ?_
        refine RG.pv rfl (PV.eql rfl rfl rfl) ?_
        refine RG.pv rfl (PV.mvB (.inr rfl) rfl) ?_
        refine RG.nil ?_
        refine WP.cond rfl (fun h4 => ?_) (fun h4 => ?_)
        · refine WP.region ?_
          refine RG.pv rfl (PV.field rfl Fo81_0 rfl) ?_
          refine RG.ot rfl (OT.storeB (vs := [vi _]) (cs' := [_, _, _, _]) rfl Sz2 rfl rfl (Cl.c rfl) rfl (OneC.c rfl) rfl rfl ?_)
          refine RG.nil ?_
          refine WP.seq ?_
          refine WP.region ?_
          refine RG.pv rfl (PV.loadW rfl Ag81 rfl rfl) ?_
          refine RG.ot rfl (OT.storeW (vs := [vi _, vi _, vi _, vi _]) rfl Sz81 rfl rfl (Cl.c rfl) rfl rfl (OneC.c rfl) ?_)
          refine RG.nil ?_
          refine WP.ret ?_
          exact ⟨_, _, ResV.one rfl (RV1.cell rfl Ag81 rfl), Cv.p, k ⟨-41, r.y0, r.x1, r.y1⟩⟩
        · refine WP.region ?_
          refine RG.pv rfl (PV.field rfl Fo81_3 rfl) ?_
          refine RG.ot rfl (OT.storeB (vs := [vi _]) (cs' := [_, _, _, _]) rfl Sz2 rfl rfl (Cl.c rfl) rfl (OneC.c rfl) rfl rfl ?_)
          refine RG.nil ?_
          refine WP.seq ?_
          refine WP.region ?_
          refine RG.pv rfl (PV.loadW rfl Ag81 rfl rfl) ?_
          refine RG.ot rfl (OT.storeW (vs := [vi _, vi _, vi _, vi _]) rfl Sz81 rfl rfl (Cl.c rfl) rfl rfl (OneC.c rfl) ?_)
          refine RG.nil ?_
          refine WP.ret ?_
          exact ⟨_, _, ResV.one rfl (RV1.cell rfl Ag81 rfl), Cv.p, k ⟨r.x0, r.y0, r.x1, 41⟩⟩
theorem spoil_s {b : Nat} {n : Int} {cv v : Value} {xs : List Rect} {bs : List UInt8} (hcode : SL G byteT cv bs) (hreg : isReg xs = true) (hn : n ≤ 1000) (k : ∀ v' ys, ys.length ≤ xs.length + 1 → R v' G (osl 81 rectT v' ys :: src b cv :: L)) : CallT Try.prog 80 #[.pointer (some ⟨b, 0, none⟩), v, vi n] G (osl 81 rectT v xs :: src b cv :: L) R := by
  have hl := isReg_len hreg
  refine CallT.enter (args := _) Try.func80 rfl rfl (by kernel_rfl) rfl ?_
  refine WP.seq ?_
  refine WP.region ?_
  refine RG.pv rfl (PV.asg rfl rfl) ?_
  refine RG.nil ?_
  refine WP.seq ?_
  refine WP.seq ?_
  refine WP.region ?_
  refine RG.pv rfl (PV.move rfl rfl) ?_
  refine RG.pv rfl (PV.mvI (.inl rfl) rfl) ?_
  refine RG.callF (vs := [_, _]) rfl rfl En131 rfl (CallT.exC (src b cv) (next_s hcode (by omega) (fun w11 hw11 => ?_)))
  refine RG.pv rfl (PV.neq rfl rfl rfl) ?_
  refine RG.nil ?_
  refine WP.cond rfl (fun h1 => ?_) (fun h1 => ?_)
  · refine WP.seq ?_
    refine WP.region ?_
    refine RG.pv rfl (PV.move (v := v) rfl rfl) ?_
    refine RG.pv rfl (PV.asg (v := v) rfl rfl) ?_
    refine RG.nil ?_
    refine WP.ret ?_
    exact ⟨_, _, ResV.one rfl rfl, Cv.p, k v xs (by omega)⟩
  · refine WP.skip ?_
    refine WP.seq ?_
    refine WP.region ?_
    refine RG.ot rfl (OT.bslice (F := rectT) (els := []) rfl El24 rfl (by decide) rfl (by decide) trivial fun v14 => ?_)
    refine RG.pv rfl (PV.move (v := v) rfl rfl) ?_
    refine RG.ot rfl (OT.append (v := v14) (u := v) (F := rectT) rfl El24 rfl (by decide) rfl rfl Rs.o (OneL.c (fun _ => rfl)) rfl (by first | omega | (simp <;> omega)) fun v16 => ?_)
    refine RG.pv rfl (PV.asg (v := v16) rfl rfl) ?_
    refine RG.nil ?_
    refine WP.seq ?_
    refine WP.seq ?_
    refine WP.region ?_
    refine RG.pv rfl (PV.move (v := v16) rfl rfl) ?_
    refine RG.pv rfl (PV.len (v := v16) rfl Try.underlying24 rfl SlF.o) ?_
    refine RG.pv rfl (PV.eql rfl rfl rfl) ?_
    refine RG.nil ?_
    have hnl : ([] ++ xs : List Rect).length = xs.length := rfl
    refine WP.cond rfl (fun h2 => ?_) (fun h2 => ?_)
    · refine WP.seq ?_
      refine WP.region ?_
      refine RG.pv rfl (PV.move (v := v16) rfl rfl) ?_
      refine RG.pv rfl (PV.build (vs := []) (out := [_, _, _, _]) rfl Zr81 Pl81 trivial rfl) ?_
      refine RG.ot rfl (OT.bslice (F := rectT) (els := [⟨_, _, _, _⟩]) rfl El24 rfl (by decide) rfl (by decide) ⟨rfl, (Cl.c rfl), trivial⟩ fun v22 => ?_)
      refine RG.ot rfl (OT.append (v := v16) (u := v22) (F := rectT) rfl El24 rfl (by decide) rfl rfl Rs.o (OneL.c (fun _ => rfl)) rfl (by first | omega | (simp <;> omega)) fun v23 => ?_)
      refine RG.pv rfl (PV.asg (v := v23) rfl rfl) ?_
      refine RG.nil ?_
      refine WP.ret ?_
      exact ⟨_, _, ResV.one rfl rfl, Cv.p, k v23 ([] ++ xs ++ [⟨0, 0, 0, 0⟩]) (by simp)⟩
    · have h2 := of_decide_eq_false h2
      refine WP.skip ?_
      refine WP.seq ?_
      refine WP.region ?_
      refine RG.pv rfl (PV.move rfl rfl) ?_
      refine RG.pv rfl (PV.move (v := v16) rfl rfl) ?_
      refine RG.pv rfl (PV.len (v := v16) rfl Try.underlying24 rfl SlF.o) ?_
      refine RG.callF (vs := [_, _]) rfl rfl En131 rfl (CallT.exC (src b cv) (next_s hcode (by omega) (fun w27 hw27 => ?_)))
      refine RG.pv rfl (PV.mvI (.inr rfl) rfl) ?_
      refine RG.nil ?_
      refine WP.seq ?_
      refine WP.seq ?_
      refine WP.region ?_
      refine RG.pv rfl (PV.move rfl rfl) ?_
      refine RG.callF (vs := [_, _]) rfl rfl En131 rfl (CallT.exC (src b cv) (next_s hcode (by omega) (fun w29 hw29 => ?_)))
      refine RG.nil ?_
      refine WP.block ?_
      refine WP.seq ?_
      refine WP.region ?_
      refine RG.pv rfl (PV.eql rfl rfl rfl) ?_
      refine RG.pv rfl (PV.mvB (.inr rfl) rfl) ?_
      refine RG.nil ?_
      have hvi := valid_bd (valid_get (isReg_valid hreg) (i := w27.toNat) (by omega))
      have hvn : gd ([] ++ xs) w27.toNat = gd xs w27.toNat := rfl
      rw [← hvn] at hvi
      refine WP.cond rfl (fun h3 => ?_) (fun h3 => ?_)
      · skip
        refine WP.region ?_
        refine RG.pv rfl (PV.move (v := v16) rfl rfl) ?_
        refine RG.pv rfl (PV.mvI (.inl rfl) rfl) ?_
        refine RG.pv rfl (PV.move rfl rfl) ?_
        refine RG.pv rfl (PV.move (v := v16) rfl rfl) ?_
        refine RG.pv rfl (PV.mvI (.inl rfl) rfl) ?_
        refine RG.pv rfl (PV.idxS (j := w27.toNat) (v := v16) rfl Is24 rfl SlF.o rfl (by omega) (by omega)) ?_
        refine RG.pv rfl (PV.loadE rfl Ag81 rfl rfl (El.o (getG (by omega)))) ?_
        refine RG.callF (vs := [_, _, _]) rfl rfl En132 rfl (CallT.exC (src b cv) (spoilRect_s hcode (valid_get (isReg_valid hreg) (i := w27.toNat) (by omega)) (by omega) (fun w47 => ?_)))
        refine RG.pv rfl (PV.idxS (j := w27.toNat) (v := v16) rfl Is24 rfl SlF.o rfl (by omega) (by omega)) ?_
        refine RG.ot rfl (OT.storeE (a := w47) (F := rectT) rfl Sz81 rfl rfl rfl (Cl.c rfl) (OneC.c rfl) (by omega) ?_)
        refine RG.nil ?_
        refine WP.seq ?_
        refine WP.region ?_
        refine RG.pv rfl (PV.move (v := v16) rfl rfl) ?_
        refine RG.pv rfl (PV.asg (v := v16) rfl rfl) ?_
        refine RG.nil ?_
        refine WP.ret ?_
        exact ⟨_, _, ResV.one rfl rfl, Cv.p, k v16 (([] ++ xs).set w27.toNat w47) (by simp)⟩
      · refine WP.seq ?_
        refine WP.region ?_
        refine RG.pv rfl (PV.eql rfl rfl rfl) ?_
        refine RG.pv rfl (PV.mvB (.inr rfl) rfl) ?_
        refine RG.nil ?_
        refine WP.cond rfl (fun h4 => ?_) (fun h4 => ?_)
        · skip
          refine WP.region ?_
          refine RG.pv rfl (PV.move (v := v16) rfl rfl) ?_
          refine RG.pv rfl (PV.move (v := v16) rfl rfl) ?_
          refine RG.pv rfl (PV.mvI (.inl rfl) rfl) ?_
          refine RG.pv rfl (PV.idxS (j := w27.toNat) (v := v16) rfl Is24 rfl SlF.o rfl (by omega) (by omega)) ?_
          refine RG.pv rfl (PV.loadE rfl Ag81 rfl rfl (El.o (getG (by omega)))) ?_
          refine RG.ot rfl (OT.bslice (F := rectT) (els := [_]) rfl El24 rfl (by decide) rfl (by decide) ⟨rfl, (Cl.c rfl), trivial⟩ fun v56 => ?_)
          refine RG.ot rfl (OT.append (v := v16) (u := v56) (F := rectT) rfl El24 rfl (by decide) rfl rfl Rs.o (OneL.c (fun _ => rfl)) rfl (by first | omega | (simp <;> omega)) fun v57 => ?_)
          refine RG.pv rfl (PV.asg (v := v57) rfl rfl) ?_
          refine RG.nil ?_
          refine WP.seq ?_
          refine WP.region ?_
          refine RG.pv rfl (PV.move (v := v57) rfl rfl) ?_
          refine RG.pv rfl (PV.asg (v := v57) rfl rfl) ?_
          refine RG.nil ?_
          refine WP.ret ?_
          exact ⟨_, _, ResV.one rfl rfl, Cv.p, k v57 ([] ++ xs ++ [gd ([] ++ xs) w27.toNat]) (by simp)⟩
        · skip
          refine WP.region ?_
          refine RG.pv rfl (PV.move (v := v16) rfl rfl) ?_
          refine RG.pv rfl (PV.mvI (.inl rfl) rfl) ?_
          refine RG.pv rfl (PV.idxS (j := w27.toNat) (v := v16) rfl Is24 rfl SlF.o rfl (by omega) (by omega)) ?_
          refine RG.pv rfl (PV.field rfl Fo81_2 rfl) ?_
          refine RG.pv rfl (PV.loadF rfl Sc2 rfl rfl (El.o (getG (by omega))) rfl) ?_
          refine RG.pv rfl (PV.add rfl rfl rfl (by omega)) ?_
          refine RG.pv rfl (PV.idxS (j := w27.toNat) (v := v16) rfl Is24 rfl SlF.o rfl (by omega) (by omega)) ?_
          refine RG.pv rfl (PV.field rfl Fo81_2 rfl) ?_
          refine RG.ot rfl (OT.storeF (F := rectT) (val := vi) (cv := fun u => [vi u]) (u := ((gd xs w27.toNat).x1 + 1)) (st := Rect.s2) rfl Sz2 rfl rfl rfl (Cl.c rfl) rfl (OneC.c rfl) (by exact set_self (by omega)) (by first | omega | (simp; omega)) rfl (fun _ _ => rfl) ?_)
          refine RG.nil ?_
          refine WP.seq ?_
          refine WP.region ?_
          refine RG.pv rfl (PV.move (v := v16) rfl rfl) ?_
          refine RG.pv rfl (PV.asg (v := v16) rfl rfl) ?_
          refine RG.nil ?_
          refine WP.ret ?_
          exact ⟨_, _, ResV.one rfl rfl, Cv.p, k v16 (([] ++ xs).set w27.toNat (Rect.s2 ((gd xs w27.toNat).x1 + 1) (gd ([] ++ xs) w27.toNat))) (by simp)⟩
end Go.Proofs.Ytilccgeldnlgnaa
