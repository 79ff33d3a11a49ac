/-
  Contracts: the regions: grids of cells, canonical lists.
-/
import Derived.Test.YthjaopefoiploaaGreatW1
import Derived.Test.YthjaopefoiploaaGreatGrid
import Derived.Test.YthjaopefoiploaaGreatCanon2
import Derived.Test.YthjaopefoiploaaGreatRh
namespace Go.Proofs.YthjaopefoiploaaGreat
open Go
set_option maxRecDepth 20000
set_option linter.unusedSimpArgs false
theorem Eq59 : EqT Tryz.prog 59 rectT := ⟨by kernel_rfl, fun a b w => by
  rw [eqT_run 9999 _ _ w Tryz.underlying59 (by kernel_rfl)]
  obtain ⟨a0, a1, a2, a3⟩ := a; obtain ⟨b0, b1, b2, b3⟩ := b
  simp only [rectT]
  simp [Op.eqFields, part, isAgg, run_underlying Tryz.underlying2, run_equalIn_int _ _ _ _ _ _ _ Tryz.underlying2]
  by_cases e0 : a0 = b0 <;> by_cases e1 : a1 = b1 <;> by_cases e2 : a2 = b2 <;> by_cases e3 : a3 = b3 <;> simp_all⟩
variable {G : Gh} {L : List Ch} {R : Value → Gh → List Ch → Prop}
theorem gb_set {bs : List Bool} {y x y' x' : Nat} {q : Bool} (h : bs.length = 6400) (hy : y < 80) (hx : x < 80) (hx' : x' < 80) : gb (bs.set (y * 80 + x) q) y' x' = if y' = y ∧ x' = x then q else gb bs y' x' := by
  unfold gb gd
  rw [List.getElem?_set]
  by_cases e : y * 80 + x = y' * 80 + x'
  · have e1 : y' = y ∧ x' = x := by omega
    rw [if_pos e, if_pos e1, if_pos (by omega)]; rfl
  · have e1 : ¬ (y' = y ∧ x' = x) := by omega
    rw [if_neg e, if_neg e1]
abbrev grd (b : Nat) (bs : List Bool) : Ch := blk b 218 (bv bs)
theorem put_s {b : Nat} {r : Rect} {bs : List Bool} (hl : bs.length = 6400) (k : ∀ bs' : List Bool, bs'.length = 6400 → (∀ y x, y < 80 → x < 80 → gb bs' y x = (gb bs y x || inR r y x)) → R (.tuple #[]) G (grd b bs' :: L)) :
    CallT Tryz.prog 185 #[.pointer (some ⟨b, 0, none⟩), vrect r] G (grd b bs :: L) R := by
  refine CallT.enter (args := _) Tryz.func185 rfl rfl (by kernel_rfl) rfl ?_
  refine WP.seq ?_
  refine WP.region ?_
  refine RG.ot rfl (OT.box (cs := rectT.enc r) rfl rfl rfl fun b3 => ?_)
  refine RG.nil ?_
  refine WP.seq ?_
  refine WP.region ?_
  refine RG.pv rfl (PV.field rfl Fo59_1 rfl) ?_
  refine RG.pv rfl (PV.load1 rfl Sc2 rfl (Rd.blk rfl)) ?_
  refine RG.pv rfl (PV.max2 rfl rfl rfl) ?_
  refine RG.pv rfl (PV.mvI (.inr rfl) rfl) ?_
  refine RG.nil ?_
  refine WP.block ?_
  refine WP.loop2 [0, 3] (fun (y : Int) (cs : List Bool) => max r.y0 (-40) ≤ y ∧ (y = max r.y0 (-40) ∨ y ≤ min r.y1 40) ∧ cs.length = 6400 ∧ ∀ y' x', y' < 80 → x' < 80 → gb cs y' x' = (gb bs y' x' || (inR r y' x' && decide ((y' : Int) - 40 < y)))) (fun (y : Int) (cs : List Bool) => [(4, vi y)]) (fun (y : Int) (cs : List Bool) => blk b3 59 (rectT.enc r) :: grd b cs :: L) (fun (y : Int) (cs : List Bool) => (40 - y).toNat) (max r.y0 (-40)) bs ⟨by omega, .inl rfl, hl, fun y' x' h1 h2 => by rw [Bool.eq_iff_iff]; simp [inR]; omega⟩ ⟨rfl, trivial⟩ Cv.p ?_
  rintro y cs τ ⟨hy0, hy1, hlc, hc⟩
  refine WP.seq ?_
  refine WP.seq ?_
  refine WP.region ?_
  refine RG.pv rfl (PV.mvI (.inl rfl) rfl) ?_
  refine RG.pv rfl (PV.field rfl Fo59_3 rfl) ?_
  refine RG.pv rfl (PV.load1 rfl Sc2 rfl (Rd.blk rfl)) ?_
  refine RG.pv rfl (PV.min2 rfl rfl rfl) ?_
  refine RG.pv rfl (PV.lss rfl rfl rfl) ?_
  refine RG.nil ?_
  refine WP.cond rfl (fun h1 => ?_) (fun h1 => ?_)
  · have h1 := of_decide_eq_true h1
    refine WP.skip ?_
    refine WP.seq ?_
    refine WP.block ?_
    refine WP.seq ?_
    refine WP.region ?_
    refine RG.pv rfl (PV.field rfl Fo59_0 rfl) ?_
    refine RG.pv rfl (PV.load1 rfl Sc2 rfl (Rd.blk rfl)) ?_
    refine RG.pv rfl (PV.max2 rfl rfl rfl) ?_
    refine RG.pv rfl (PV.mvI (.inr rfl) rfl) ?_
    refine RG.nil ?_
    refine WP.block ?_
    refine WP.loop2 [0, 3, 4] (fun (x : Int) (ds : List Bool) => max r.x0 (-40) ≤ x ∧ (x = max r.x0 (-40) ∨ x ≤ min r.x1 40) ∧ ds.length = 6400 ∧ ∀ y' x', y' < 80 → x' < 80 → gb ds y' x' = (gb cs y' x' || (decide ((y' : Int) - 40 = y) && decide (r.x0 ≤ (x' : Int) - 40) && decide ((x' : Int) - 40 < x)))) (fun (x : Int) (ds : List Bool) => [(5, vi x)]) (fun (x : Int) (ds : List Bool) => blk b3 59 (rectT.enc r) :: grd b ds :: L) (fun (x : Int) (ds : List Bool) => (40 - x).toNat) (max r.x0 (-40)) cs ⟨by omega, .inl rfl, hlc, fun y' x' h1 h2 => by rw [Bool.eq_iff_iff]; simp; omega⟩ ⟨rfl, trivial⟩ Cv.p ?_
    rintro x ds σ' ⟨hx0, hx1, hld, hd⟩
    refine WP.seq ?_
    refine WP.seq ?_
    refine WP.region ?_
    refine RG.pv rfl (PV.mvI (.inl rfl) rfl) ?_
    refine RG.pv rfl (PV.field rfl Fo59_2 rfl) ?_
    refine RG.pv rfl (PV.load1 rfl Sc2 rfl (Rd.blk rfl)) ?_
    refine RG.pv rfl (PV.min2 rfl rfl rfl) ?_
    refine RG.pv rfl (PV.lss rfl rfl rfl) ?_
    refine RG.nil ?_
    refine WP.cond rfl (fun h2 => ?_) (fun h2 => ?_)
    · have h2 := of_decide_eq_true h2
      refine WP.skip ?_
      refine WP.seq ?_
      refine WP.block ?_
      refine WP.region ?_
      refine RG.pv rfl (PV.mvP (.inl rfl) rfl) ?_
      refine RG.pv rfl (PV.mvI (.inl rfl) rfl) ?_
      refine RG.pv rfl (PV.add rfl rfl rfl (by omega)) ?_
      refine RG.pv rfl (PV.mvI (.inl rfl) rfl) ?_
      refine RG.pv rfl (PV.add rfl rfl rfl (by omega)) ?_
      refine RG.pv rfl (PV.nilc rfl rfl) ?_
      refine RG.pv rfl (PV.idxA (j := (y + 40).toNat) rfl Ia218 rfl rfl (by omega) (by omega)) ?_
      refine RG.pv rfl (PV.idxA (j := (x + 40).toNat) rfl Ia216 rfl rfl (by omega) (by omega)) ?_
      refine RG.ot rfl (OT.storeGr rfl Sz4 rfl rfl rfl (by first | omega | (simp; omega)) ?_)
      refine RG.nil ?_
      refine WP.region ?_
      refine RG.pv rfl (PV.mvI (.inl rfl) rfl) ?_
      refine RG.pv rfl (PV.add rfl rfl rfl (by omega)) ?_
      refine RG.pv rfl (PV.mvI (.inr rfl) rfl) ?_
      refine RG.nil ?_
      refine ⟨rfl, x + 1, (ds.set (0 + (y + 40).toNat * 80 + (x + 40).toNat * 1) true), ⟨by omega, by omega, by simpa using hld, fun y' x' h3 h4 => ?_⟩, ⟨rfl, trivial⟩, ⟨rfl, rfl, rfl, trivial⟩, Cv.p, by omega⟩
      rw [show 0 + (y + 40).toNat * 80 + (x + 40).toNat * 1 = (y + 40).toNat * 80 + (x + 40).toNat by omega, gb_set hld (by omega) (by omega) h4, hd y' x' h3 h4]
      cases gb cs y' x' <;> (rw [Bool.eq_iff_iff]; split <;> simp <;> omega)
    · have h2 := of_decide_eq_false h2
      refine WP.exit ?_
      refine WP.region ?_
      refine RG.pv rfl (PV.mvI (.inl rfl) rfl) ?_
      refine RG.pv rfl (PV.add rfl rfl rfl (by omega)) ?_
      refine RG.pv rfl (PV.mvI (.inr rfl) rfl) ?_
      refine RG.nil ?_
      refine ⟨rfl, y + 1, ds, ⟨by omega, by omega, hld, fun y' x' h3 h4 => ?_⟩, ⟨rfl, trivial⟩, ⟨rfl, rfl, trivial⟩, Cv.p, by omega⟩
      rw [hd y' x' h3 h4, hc y' x' h3 h4]
      cases gb bs y' x' <;> (rw [Bool.eq_iff_iff]; simp [inR]; try omega)
  · have h1 := of_decide_eq_false h1
    refine WP.exit ?_
    refine ⟨_, _, ResV.zero rfl, Cv.p, k cs hlc fun y' x' h3 h4 => ?_⟩
    rw [hc y' x' h3 h4]
    cases gb bs y' x' <;> (rw [Bool.eq_iff_iff]; simp [inR]; try omega)
theorem gb_rep (y x : Nat) : gb (List.replicate 6400 false) y x = false := by
  unfold gb gd
  rw [List.getElem?_replicate]; split <;> rfl
theorem cellsOf_s {v : Value} {xs : List Rect} (h1 : Rs G L rectT v xs) (k : ∀ b, R (.pointer (some ⟨b, 0, none⟩)) G (grd b (bits xs) :: L)) : CallT Tryz.prog 124 #[v] G L R := by
  refine CallT.bd h1 fun hb => ?_
  refine CallT.enter (args := _) Tryz.func124 rfl rfl (by kernel_rfl) rfl ?_
  refine WP.seq ?_
  refine WP.region ?_
  refine RG.pv rfl (PV.asg rfl rfl) ?_
  refine RG.nil ?_
  refine WP.seq ?_
  refine WP.region ?_
  refine RG.pv rfl (PV.build0 rfl Tryz.underlying218 ⟨80, by kernel_rfl⟩ (zeroB_spec (n := 6400) (by kernel_rfl))) ?_
  refine RG.ot rfl (OT.boxG rfl rfl fun b7 => ?_)
  refine RG.pv rfl (PV.mvP (.inr rfl) rfl) ?_
  refine RG.nil ?_
  refine WP.seq ?_
  refine WP.seq ?_
  refine WP.region ?_
  refine RG.pv rfl (PV.move (v := v) rfl rfl) ?_
  refine RG.pv rfl (PV.len (v := v) rfl Tryz.underlying66 rfl (SlF.r h1)) ?_
  refine RG.pv rfl (PV.mvI (.inl rfl) rfl) ?_
  refine RG.nil ?_
  refine WP.block ?_
  refine WP.loop2 [3, 8, 9] (fun i cs => i ≤ xs.length ∧ cs.length = 6400 ∧ ∀ y x, y < 80 → x < 80 → gb cs y x = (xs.take i).any fun r => inR r y x) (fun i cs => [(10, vi i)]) (fun i cs => grd b7 cs :: L) (fun i cs => xs.length - i) 0 (List.replicate 6400 false) ⟨by omega, by simp, fun y x _ _ => by rw [gb_rep]; simp⟩ ⟨rfl, trivial⟩ Cv.p ?_
  rintro i cs τ ⟨hi, hl, hc⟩
  refine WP.seq ?_
  refine WP.region ?_
  refine RG.pv rfl (PV.lss rfl rfl rfl) ?_
  refine RG.nil ?_
  refine WP.seq ?_
  refine WP.cond rfl (fun h2 => ?_) (fun h2 => ?_)
  · have h2 := of_decide_eq_true h2
    refine WP.skip ?_
    refine WP.seq ?_
    refine WP.block ?_
    refine WP.seq ?_
    refine WP.region ?_
    refine RG.pv rfl (PV.idxS (v := v) rfl Is66 rfl (SlF.r h1) rfl rfl (by omega)) ?_
    refine RG.pv rfl (PV.loadE rfl Ag59 rfl rfl (El.r h1 (getG (by omega)))) ?_
    refine RG.ot rfl (OT.alloc rfl Zr59 fun b5 => ?_)
    refine RG.ot rfl (OT.storeW (vs := [vi _, vi _, vi _, vi _]) rfl Sz59 rfl rfl (Cl.c rfl) rfl rfl (OneC.c rfl) ?_)
    refine RG.nil ?_
    refine WP.region ?_
    refine RG.pv rfl (PV.mvP (.inl rfl) rfl) ?_
    refine RG.pv rfl (PV.loadW rfl Ag59 rfl rfl) ?_
    refine RG.callF (vs := [(.pointer (some ⟨b7, 0, none⟩)), _]) rfl rfl En185 rfl (CallT.exB (put_s (by assumption) (fun bs' hb' hg' => ?_)))
    refine RG.nil ?_
    refine WP.region ?_
    refine RG.pv rfl (PV.add rfl rfl rfl (by omega)) ?_
    refine RG.pv rfl (PV.mvI (.inl rfl) rfl) ?_
    refine RG.nil ?_
    refine ⟨rfl, i + 1, bs', ⟨by omega, hb', fun y x h3 h4 => ?_⟩, ⟨rfl, trivial⟩, ⟨rfl, rfl, rfl, trivial⟩, Cv.p, by omega⟩
    rw [hg' y x h3 h4, hc y x h3 h4, List.take_add_one, getG (by omega)]; simp
  · have h2 := of_decide_eq_false h2
    have e : cs = bits xs := bits_eq hl fun y x h3 h4 => by rw [hc y x h3 h4, List.take_of_length_le (by omega)]
    subst e
    refine WP.exit ?_
    refine WP.seq ?_
    refine WP.region ?_
    refine RG.pv rfl (PV.mvP (.inl rfl) rfl) ?_
    refine RG.pv rfl (PV.mvP (.inr rfl) rfl) ?_
    refine RG.nil ?_
    refine WP.ret ?_
    exact ⟨_, _, ResV.one rfl rfl, Cv.p, k b7⟩
theorem rowsEq_gb {bs : List Bool} {e y : Nat} (h : bs.length = 6400) (he : e < 80) (hy : y < 80) : decide ((bs.drop (0 + e * 80)).take 80 = (bs.drop (0 + y * 80)).take 80) = rowsEq bs e y := by
  rw [Nat.zero_add, Nat.zero_add]; exact rowL_eq h he hy
theorem region_s {b : Nat} {bs : List Bool} (hl : bs.length = 6400) (k : ∀ v, R v G (osl 59 rectT v (canon bs) :: grd b bs :: L)) :
    CallT Tryz.prog 151 #[.pointer (some ⟨b, 0, none⟩)] G (grd b bs :: L) R := by
  refine CallT.enter (args := _) Tryz.func151 rfl rfl (by kernel_rfl) rfl ?_
  refine WP.seq ?_
  refine WP.region ?_
  refine RG.pv rfl (PV.asg rfl rfl) ?_
  refine RG.nil ?_
  refine WP.seq ?_
  refine WP.region ?_
  refine RG.ot rfl (OT.bslice (F := rectT) (els := []) rfl El66 rfl (by decide) rfl (by decide) trivial fun v8 => ?_)
  refine RG.pv rfl (PV.asg (v := v8) rfl rfl) ?_
  refine RG.nil ?_
  refine WP.seq ?_
  refine WP.seq ?_
  refine WP.region ?_
  refine RG.pv rfl (PV.mvI (.inr rfl) rfl) ?_
  refine RG.nil ?_
  refine WP.block ?_
  refine WP.loop3 [0] (fun (y : Nat) (out : List Rect) (v : Value) => y ≤ 80 ∧ canon bs = out ++ canonFrom bs y ∧ out.length ≤ 81 * y) (fun (y : Nat) (out : List Rect) (v : Value) => [(4, vi y), (3, v)]) (fun (y : Nat) (out : List Rect) (v : Value) => osl 59 rectT v out :: grd b bs :: L) (fun (y : Nat) (out : List Rect) (v : Value) => 80 - y) 0 [] v8 ⟨by omega, rfl, by simp⟩ ⟨rfl, rfl, trivial⟩ Cv.p ?_
  rintro y out v τ ⟨hy, hc, hlen⟩
  refine WP.seq ?_
  refine WP.seq ?_
  refine WP.region ?_
  refine RG.pv rfl (PV.mvI (.inl rfl) rfl) ?_
  refine RG.pv rfl (PV.lss rfl rfl rfl) ?_
  refine RG.nil ?_
  refine WP.cond rfl (fun h1 => ?_) (fun h1 => ?_)
  · have h1 := of_decide_eq_true h1
    have hy8 : y < 80 := by omega
    refine WP.skip ?_
    refine WP.block ?_
    refine WP.seq ?_
    refine WP.region ?_
    refine RG.pv rfl (PV.mvI (.inl rfl) rfl) ?_
    refine RG.pv rfl (PV.add rfl rfl rfl (by omega)) ?_
    refine RG.pv rfl (PV.mvI (.inr rfl) rfl) ?_
    refine RG.nil ?_
    refine WP.seq ?_
    refine WP.block ?_
    refine WP.loop1 [0, 3, 4] (fun (e : Nat) => y + 1 ≤ e ∧ e ≤ 80 ∧ endFrom bs y (y + 1) = endFrom bs y e) (fun (e : Nat) => [(5, vi e)]) (fun (e : Nat) => osl 59 rectT v out :: grd b bs :: L) (fun (e : Nat) => 80 - e) (y + 1) ⟨by omega, by omega, rfl⟩ ⟨rfl, trivial⟩ Cv.p ?_
    rintro e σ1 ⟨he0, he1, hee⟩
    refine WP.seq ?_
    refine WP.seq ?_
    refine WP.regionQ (by kernel_rfl) (by kernel_rfl) ?_
    refine RQ.pv rfl (PV.mvI (.inl rfl) rfl) ?_
    refine RQ.pv rfl (PV.lss rfl rfl rfl) ?_
    refine RQ.pv rfl (PV.mvB (.inl rfl) rfl) ?_
    refine RQ.gs rfl rfl rfl (fun hp => (PV.mvP (.inl rfl) rfl)) ?_
    refine RQ.gs rfl rfl rfl (fun hp => (PV.mvI (.inl rfl) rfl)) ?_
    refine RQ.gs rfl rfl rfl (fun hp => (PV.nilc rfl (gs_t hp))) ?_
    refine RQ.gs rfl rfl rfl (fun hp => (PV.idxA rfl Ia218 (gs_t hp) (gs_t hp) rfl (by first | omega | (simp at hp; omega)))) ?_
    refine RQ.gs rfl rfl rfl (fun hp => (PV.loadRow rfl Ag216 (gs_t hp) rfl (by first | omega | (simp at hp; omega)))) ?_
    refine RQ.gs rfl rfl rfl (fun hp => (PV.mvP (.inl rfl) rfl)) ?_
    refine RQ.gs rfl rfl rfl (fun hp => (PV.mvI (.inl rfl) rfl)) ?_
    refine RQ.gs rfl rfl rfl (fun hp => (PV.nilc rfl (gs_t hp))) ?_
    refine RQ.gs rfl rfl rfl (fun hp => (PV.idxA rfl Ia218 (gs_t hp) (gs_t hp) rfl (by first | omega | (simp at hp; omega)))) ?_
    refine RQ.gs rfl rfl rfl (fun hp => (PV.loadRow rfl Ag216 (gs_t hp) rfl (by first | omega | (simp at hp; omega)))) ?_
    refine RQ.gs rfl rfl rfl (fun hp => (PV.eqlRow rfl Tryz.underlying216 Tryz.underlying4 Sz4 (by kernel_rfl) (gs_t hp) (gs_t hp) (by first | (simp; omega) | (simp at hp; simp; omega)) (by first | (simp; omega) | (simp at hp; simp; omega)))) ?_
    refine RQ.pv rfl (PV.pickA rfl rfl (fun hq => gs_t (geqT hq)) rfl) ?_
    refine RQ.nil ?_
    refine WP.cond rfl (fun h2 => ?_) (fun h2 => ?_)
    · simp only [Bool.and_eq_true, decide_eq_true_eq] at h2
      refine WP.skip ?_
      refine WP.block ?_
      refine WP.region ?_
      refine RG.pv rfl (PV.mvI (.inl rfl) rfl) ?_
      refine RG.pv rfl (PV.add rfl rfl rfl (by omega)) ?_
      refine RG.pv rfl (PV.mvI (.inr rfl) rfl) ?_
      refine RG.nil ?_
      refine ⟨rfl, e + 1, ⟨by omega, by omega, ?_⟩, ⟨rfl, trivial⟩, ⟨rfl, rfl, rfl, trivial⟩, Cv.p, by omega⟩
      rw [hee, endFrom, if_pos ⟨by omega, by rw [← rowsEq_gb hl (by omega) hy8]; simpa using h2.2⟩]
    · have h3 : endFrom bs y (y + 1) = e := by
        rw [hee, endFrom, if_neg]
        rintro ⟨h4, h5⟩
        rw [← rowsEq_gb hl h4 hy8] at h5
        simp at h2 h5; exact h2 (by omega) h5
      refine WP.exit ?_
      refine WP.seq ?_
      refine WP.seq ?_
      refine WP.region ?_
      refine RG.pv rfl (PV.mvI (.inr rfl) rfl) ?_
      refine RG.nil ?_
      refine WP.block ?_
      refine WP.loop3 [0, 4, 5] (fun (x : Nat) (out' : List Rect) (v' : Value) => x ≤ 81 ∧ out ++ (runsFrom (gb bs y) 0).map (mkR y e) = out' ++ (runsFrom (gb bs y) x).map (mkR y e) ∧ out'.length ≤ out.length + x) (fun (x : Nat) (out' : List Rect) (v' : Value) => [(6, vi x), (3, v')]) (fun (x : Nat) (out' : List Rect) (v' : Value) => osl 59 rectT v' out' :: grd b bs :: L) (fun (x : Nat) (out' : List Rect) (v' : Value) => 81 - x) 0 out v ⟨by omega, rfl, by omega⟩ ⟨rfl, rfl, trivial⟩ Cv.p ?_
      rintro x out' v' σ2 ⟨hx, ho, hl2⟩
      refine WP.seq ?_
      refine WP.seq ?_
      refine WP.region ?_
      refine RG.pv rfl (PV.mvI (.inl rfl) rfl) ?_
      refine RG.pv rfl (PV.lss rfl rfl rfl) ?_
      refine RG.nil ?_
      refine WP.cond rfl (fun h4 => ?_) (fun h4 => ?_)
      · have h4 := of_decide_eq_true h4
        have hx8 : x < 80 := by omega
        refine WP.skip ?_
        refine WP.seq ?_
        refine WP.block ?_
        refine WP.seq ?_
        refine WP.seq ?_
        refine WP.region ?_
        refine RG.pv rfl (PV.mvP (.inl rfl) rfl) ?_
        refine RG.pv rfl (PV.mvI (.inl rfl) rfl) ?_
        refine RG.pv rfl (PV.mvI (.inl rfl) rfl) ?_
        refine RG.pv rfl (PV.nilc rfl rfl) ?_
        refine RG.pv rfl (PV.idxA rfl Ia218 rfl rfl rfl (by omega)) ?_
        refine RG.pv rfl (PV.idxA rfl Ia216 rfl rfl rfl (by omega)) ?_
        refine RG.pv rfl (PV.loadGr rfl Sc4 rfl rfl (by omega)) ?_
        refine RG.pv rfl (PV.not rfl rfl) ?_
        refine RG.nil ?_
        refine WP.cond rfl (fun h5 => ?_) (fun h5 => ?_)
        · have h6 : gb bs y x = false := by simpa [gb] using h5
          refine WP.exit ?_
          refine WP.region ?_
          refine RG.pv rfl (PV.mvI (.inl rfl) rfl) ?_
          refine RG.pv rfl (PV.add rfl rfl rfl (by omega)) ?_
          refine RG.pv rfl (PV.mvI (.inr rfl) rfl) ?_
          refine RG.nil ?_
          refine ⟨rfl, x + 1, out', v', ⟨by omega, ?_, by omega⟩, ⟨rfl, rfl, trivial⟩, ⟨rfl, rfl, rfl, trivial⟩, Cv.p, by omega⟩
          rw [ho, runsFrom, if_pos hx8, if_neg (by simp [h6])]
        · have h6 : gb bs y x = true := by simpa [gb] using h5
          refine WP.skip ?_
          refine WP.seq ?_
          refine WP.region ?_
          refine RG.pv rfl (PV.mvI (.inl rfl) rfl) ?_
          refine RG.pv rfl (PV.mvI (.inr rfl) rfl) ?_
          refine RG.nil ?_
          refine WP.seq ?_
          refine WP.block ?_
          refine WP.loop1 [0, 3, 4, 5, 7] (fun (f : Nat) => x ≤ f ∧ f ≤ 80 ∧ runEnd (gb bs y) x = runEnd (gb bs y) f) (fun (f : Nat) => [(6, vi f)]) (fun (f : Nat) => osl 59 rectT v' out' :: grd b bs :: L) (fun (f : Nat) => 80 - f) x ⟨by omega, by omega, rfl⟩ ⟨rfl, trivial⟩ Cv.p ?_
          rintro f σ3 ⟨hf0, hf1, hf⟩
          refine WP.seq ?_
          refine WP.seq ?_
          refine WP.region ?_
          refine RG.pv rfl (PV.mvI (.inl rfl) rfl) ?_
          refine RG.pv rfl (PV.lss rfl rfl rfl) ?_
          refine RG.pv rfl (PV.mvB (.inl rfl) rfl) ?_
          refine RG.gs rfl rfl rfl (fun hp => (PV.mvP (.inl rfl) rfl)) ?_
          refine RG.gs rfl rfl rfl (fun hp => (PV.mvI (.inl rfl) rfl)) ?_
          refine RG.gs rfl rfl rfl (fun hp => (PV.mvI (.inl rfl) rfl)) ?_
          refine RG.gs rfl rfl rfl (fun hp => (PV.nilc rfl (gs_t hp))) ?_
          refine RG.gs rfl rfl rfl (fun hp => (PV.idxA rfl Ia218 (gs_t hp) (gs_t hp) rfl (by first | omega | (simp at hp; omega)))) ?_
          refine RG.gs rfl rfl rfl (fun hp => (PV.idxA rfl Ia216 (gs_t hp) (gs_t hp) rfl (by first | omega | (simp at hp; omega)))) ?_
          refine RG.gs rfl rfl rfl (fun hp => (PV.loadGr rfl Sc4 (gs_t hp) rfl (by first | omega | (simp at hp; omega)))) ?_
          refine RG.pv rfl (PV.pickA rfl rfl (fun hq => gs_t (geqT hq)) rfl) ?_
          refine RG.nil ?_
          refine WP.cond rfl (fun h7 => ?_) (fun h7 => ?_)
          · simp only [Bool.and_eq_true, decide_eq_true_eq] at h7
            refine WP.skip ?_
            refine WP.block ?_
            refine WP.region ?_
            refine RG.pv rfl (PV.mvI (.inl rfl) rfl) ?_
            refine RG.pv rfl (PV.add rfl rfl rfl (by omega)) ?_
            refine RG.pv rfl (PV.mvI (.inr rfl) rfl) ?_
            refine RG.nil ?_
            refine ⟨rfl, f + 1, ⟨by omega, by omega, ?_⟩, ⟨rfl, trivial⟩, ⟨rfl, rfl, rfl, rfl, rfl, trivial⟩, Cv.p, by omega⟩
            rw [hf, runEnd, if_pos ⟨by omega, by simpa [gb] using h7.2⟩]
          · have h8 : runEnd (gb bs y) x = f := by
              rw [hf, runEnd, if_neg]
              rintro ⟨h9, h10⟩
              simp [gb] at h7 h10; exact absurd h10 (by simp [h7 (by omega)])
            refine WP.exit ?_
            refine WP.region ?_
            refine RG.pv rfl (PV.move (v := v') rfl rfl) ?_
            refine RG.pv rfl (PV.mvI (.inl rfl) rfl) ?_
            refine RG.pv rfl (PV.sub rfl rfl rfl (by omega)) ?_
            refine RG.pv rfl (PV.mvI (.inl rfl) rfl) ?_
            refine RG.pv rfl (PV.sub rfl rfl rfl (by omega)) ?_
            refine RG.pv rfl (PV.mvI (.inl rfl) rfl) ?_
            refine RG.pv rfl (PV.sub rfl rfl rfl (by omega)) ?_
            refine RG.pv rfl (PV.mvI (.inl rfl) rfl) ?_
            refine RG.pv rfl (PV.sub rfl rfl rfl (by omega)) ?_
            refine RG.pv rfl (PV.build (vs := [(0, [vi _]), (1, [vi _]), (2, [vi _]), (3, [vi _])]) (out := [_, _, _, _]) rfl Zr59 Pl59 ⟨rfl, (Cl.c rfl), ⟨rfl, (Cl.c rfl), ⟨rfl, (Cl.c rfl), ⟨rfl, (Cl.c rfl), trivial⟩⟩⟩⟩ rfl) ?_
            refine RG.ot rfl (OT.bslice (F := rectT) (els := [⟨_, _, _, _⟩]) rfl El66 rfl (by decide) rfl (by decide) ⟨rfl, (Cl.c rfl), trivial⟩ fun v66 => ?_)
            refine RG.ot rfl (OT.append (v := v') (u := v66) (F := rectT) rfl El66 rfl (by decide) rfl rfl Rs.o (OneL.c (fun _ => rfl)) rfl (by first | omega | (simp <;> omega)) fun v67 => ?_)
            refine RG.pv rfl (PV.asg (v := v67) rfl rfl) ?_
            refine RG.nil ?_
            refine WP.region ?_
            refine RG.pv rfl (PV.mvI (.inl rfl) rfl) ?_
            refine RG.pv rfl (PV.add rfl rfl rfl (by omega)) ?_
            refine RG.pv rfl (PV.mvI (.inr rfl) rfl) ?_
            refine RG.nil ?_
            refine ⟨rfl, f + 1, (out' ++ [⟨(x : Int) - 40, (y : Int) - 40, (f : Int) - 40, (e : Int) - 40⟩]), v67, ⟨by omega, ?_, by simp; omega⟩, ⟨rfl, rfl, trivial⟩, ⟨rfl, rfl, rfl, trivial⟩, Cv.p, by omega⟩
            rw [ho, runsFrom, if_pos hx8, if_pos h6]
            rw [runEnd, if_pos ⟨hx8, h6⟩] at h8
            simp [h8, mkR]
      · have h4 := of_decide_eq_false h4
        refine WP.exit ?_
        refine WP.region ?_
        refine RG.pv rfl (PV.mvI (.inl rfl) rfl) ?_
        refine RG.pv rfl (PV.mvI (.inr rfl) rfl) ?_
        refine RG.nil ?_
        refine ⟨rfl, e, out', v', ⟨by omega, ?_, by omega⟩, ⟨rfl, rfl, trivial⟩, ⟨rfl, trivial⟩, Cv.p, by omega⟩
        have e1 : canonFrom bs y = (runsFrom (gb bs y) 0).map (mkR y e) ++ canonFrom bs e := by rw [canonFrom, if_pos hy8, h3]
        have e2 : runsFrom (gb bs y) x = [] := by rw [runsFrom, if_neg (by omega)]
        rw [hc, e1, ← List.append_assoc, ho, e2]; simp
  · have h1 := of_decide_eq_false h1
    have e : out = canon bs := by rw [hc, canonFrom, if_neg (by omega), List.append_nil]
    rw [e]
    refine WP.exit ?_
    refine WP.seq ?_
    refine WP.region ?_
    refine RG.pv rfl (PV.move (v := v) rfl rfl) ?_
    refine RG.pv rfl (PV.asg (v := v) rfl rfl) ?_
    refine RG.nil ?_
    refine WP.ret ?_
    exact ⟨_, _, ResV.one rfl rfl, Cv.p, k v⟩
def validRs (xs : List Rect) : Bool := decide (xs.length ≤ 3200) && xs.all validRect
theorem validRs_false {xs : List Rect} {i : Nat} (h : i < xs.length) (e : validRect (gd xs i) = false) : validRs xs = false := by
  simp only [validRs, Bool.and_eq_false_iff]
  refine .inr ?_
  rw [List.all_eq_false]
  exact ⟨gd xs i, by rw [gd_eq h]; exact List.getElem_mem h, by simp [e]⟩
theorem validRs_true {xs : List Rect} (h0 : xs.length ≤ 3200) (h : ∀ i, i < xs.length → validRect (gd xs i) = true) : validRs xs = true := by
  simp only [validRs, Bool.and_eq_true, decide_eq_true_eq, List.all_eq_true]
  refine ⟨h0, fun x hx => ?_⟩
  obtain ⟨i, hi, rfl⟩ := List.getElem_of_mem hx
  rw [← gd_eq hi]; exact h i hi
theorem validRects_s {v : Value} {xs : List Rect} (h1 : Rs G L rectT v xs) (k : R (.bool (validRs xs)) G L) : CallT Tryz.prog 149 #[v] G L R := by
  refine CallT.bd h1 fun hb => ?_
  refine CallT.enter (args := _) Tryz.func149 rfl rfl (by kernel_rfl) rfl ?_
  refine WP.seq ?_
  refine WP.region ?_
  refine RG.pv rfl (PV.mvB (.inr rfl) rfl) ?_
  refine RG.nil ?_
  refine WP.seq ?_
  refine WP.seq ?_
  refine WP.region ?_
  refine RG.pv rfl (PV.move (v := v) rfl rfl) ?_
  refine RG.pv rfl (PV.len (v := v) rfl Tryz.underlying66 rfl (SlF.r h1)) ?_
  refine RG.pv rfl (PV.gtr rfl rfl rfl) ?_
  refine RG.nil ?_
  refine WP.cond rfl (fun h2 => ?_) (fun h2 => ?_)
  · have e : validRs xs = false := by simp [validRs] at h2 ⊢; omega
    rw [e] at k
    refine WP.seq ?_
    refine WP.region ?_
    refine RG.pv rfl (PV.mvB (.inr rfl) rfl) ?_
    refine RG.nil ?_
    refine WP.ret ?_
    exact ⟨_, _, ResV.one rfl rfl, Cv.p, k⟩
  · have h2 : xs.length ≤ 3200 := by simp at h2; omega
    refine WP.skip ?_
    refine WP.seq ?_
    refine WP.seq ?_
    refine WP.region ?_
    refine RG.pv rfl (PV.move (v := v) rfl rfl) ?_
    refine RG.pv rfl (PV.len (v := v) rfl Tryz.underlying66 rfl (SlF.r h1)) ?_
    refine RG.pv rfl (PV.mvI (.inl rfl) rfl) ?_
    refine RG.nil ?_
    refine WP.block ?_
    refine WP.loop1 [8, 9] (fun i => i ≤ xs.length ∧ ∀ j, j < i → validRect (gd xs j) = true) (fun i => [(10, vi i)]) (fun i => L) (fun i => xs.length - i) 0 ⟨by omega, fun j h => by omega⟩ ⟨rfl, trivial⟩ Cv.p ?_
    rintro i τ ⟨hi, hv⟩
    refine WP.seq ?_
    refine WP.region ?_
    refine RG.pv rfl (PV.lss rfl rfl rfl) ?_
    refine RG.nil ?_
    refine WP.seq ?_
    refine WP.cond rfl (fun h3 => ?_) (fun h3 => ?_)
    · have h3 := of_decide_eq_true h3
      refine WP.skip ?_
      refine WP.seq ?_
      refine WP.block ?_
      refine WP.seq ?_
      refine WP.region ?_
      refine RG.pv rfl (PV.idxS (v := v) rfl Is66 rfl (SlF.r h1) rfl rfl (by omega)) ?_
      refine RG.pv rfl (PV.loadE rfl Ag59 rfl rfl (El.r h1 (getG (by omega)))) ?_
      refine RG.ot rfl (OT.alloc rfl Zr59 fun b4 => ?_)
      refine RG.ot rfl (OT.storeW (vs := [vi _, vi _, vi _, vi _]) rfl Sz59 rfl rfl (Cl.c rfl) rfl rfl (OneC.c rfl) ?_)
      refine RG.nil ?_
      refine WP.seq ?_
      refine WP.region ?_
      refine RG.pv rfl (PV.loadW rfl Ag59 rfl rfl) ?_
      refine RG.callF (vs := [_]) rfl rfl En191 rfl (validRect_s ?_)
      refine RG.pv rfl (PV.not rfl rfl) ?_
      refine RG.nil ?_
      refine WP.cond rfl (fun h4 => ?_) (fun h4 => ?_)
      · rw [validRs_false (i := i) (by omega) (by simpa using h4)] at k
        refine WP.seq ?_
        refine WP.region ?_
        refine RG.pv rfl (PV.mvB (.inr rfl) rfl) ?_
        refine RG.nil ?_
        refine WP.ret ?_
        exact ⟨_, _, ResV.one rfl rfl, Cv.p, k⟩
      · have hv' : ∀ j, j < i + 1 → validRect (gd xs j) = true := fun j h => by
          by_cases c : j = i
          · subst c; simpa using h4
          · exact hv j (by omega)
        refine WP.skip ?_
        refine WP.region ?_
        refine RG.pv rfl (PV.add rfl rfl rfl (by omega)) ?_
        refine RG.pv rfl (PV.mvI (.inl rfl) rfl) ?_
        refine RG.nil ?_
        exact ⟨rfl, i + 1, ⟨by omega, hv'⟩, ⟨rfl, trivial⟩, ⟨rfl, rfl, trivial⟩, Cv.p, by omega⟩
    · have h3 := of_decide_eq_false h3
      rw [validRs_true h2 (fun i h => hv i (by omega))] at k
      refine WP.exit ?_
      refine WP.seq ?_
      refine WP.region ?_
      refine RG.pv rfl (PV.mvB (.inr rfl) rfl) ?_
      refine RG.nil ?_
      refine WP.ret ?_
      exact ⟨_, _, ResV.one rfl rfl, Cv.p, k⟩
theorem equal_s {v u : Value} {xs ys : List Rect} (h1 : Rs G L rectT v xs) (h2 : Rs G L rectT u ys) (k : R (.bool (decide (xs = ys))) G L) : CallT Tryz.prog 150 #[v, u] G L R := by
  refine CallT.bd h1 fun hb => ?_
  refine CallT.bd h2 fun hb' => ?_
  refine CallT.enter (args := _) Tryz.func150 rfl rfl (by kernel_rfl) rfl ?_
  refine WP.seq ?_
  refine WP.region ?_
  refine RG.pv rfl (PV.mvB (.inr rfl) rfl) ?_
  refine RG.nil ?_
  refine WP.seq ?_
  refine WP.seq ?_
  refine WP.region ?_
  refine RG.pv rfl (PV.move (v := v) rfl rfl) ?_
  refine RG.pv rfl (PV.len (v := v) rfl Tryz.underlying66 rfl (SlF.r h1)) ?_
  refine RG.pv rfl (PV.move (v := u) rfl rfl) ?_
  refine RG.pv rfl (PV.len (v := u) rfl Tryz.underlying66 rfl (SlF.r h2)) ?_
  refine RG.pv rfl (PV.neq rfl rfl rfl) ?_
  refine RG.nil ?_
  refine WP.cond rfl (fun h3 => ?_) (fun h3 => ?_)
  · have e : decide (xs = ys) = false := by
      rw [decide_eq_false_iff_not]; rintro rfl; simp at h3
    rw [e] at k
    refine WP.seq ?_
    refine WP.region ?_
    refine RG.pv rfl (PV.mvB (.inr rfl) rfl) ?_
    refine RG.nil ?_
    refine WP.ret ?_
    exact ⟨_, _, ResV.one rfl rfl, Cv.p, k⟩
  · have hl : xs.length = ys.length := by simp at h3; omega
    refine WP.skip ?_
    refine WP.seq ?_
    refine WP.seq ?_
    refine WP.region ?_
    refine RG.pv rfl (PV.move (v := v) rfl rfl) ?_
    refine RG.pv rfl (PV.len (v := v) rfl Tryz.underlying66 rfl (SlF.r h1)) ?_
    refine RG.pv rfl (PV.mvI (.inl rfl) rfl) ?_
    refine RG.nil ?_
    refine WP.block ?_
    refine WP.loop1 [0, 1, 12] (fun i => i ≤ xs.length ∧ ∀ j, j < i → xs[j]? = ys[j]?) (fun i => [(13, vi i)]) (fun i => L) (fun i => xs.length - i) 0 ⟨by omega, fun j h => by omega⟩ ⟨rfl, trivial⟩ Cv.p ?_
    rintro i τ ⟨hi, he⟩
    refine WP.seq ?_
    refine WP.region ?_
    refine RG.pv rfl (PV.lss rfl rfl rfl) ?_
    refine RG.nil ?_
    refine WP.seq ?_
    refine WP.cond rfl (fun h4 => ?_) (fun h4 => ?_)
    · have h4 := of_decide_eq_true h4
      have h5 : i < xs.length := by omega
      refine WP.skip ?_
      refine WP.seq ?_
      refine WP.block ?_
      refine WP.seq ?_
      refine WP.region ?_
      refine RG.pv rfl (PV.mvI (.inl rfl) rfl) ?_
      refine RG.pv rfl (PV.mvI (.inr rfl) rfl) ?_
      refine RG.nil ?_
      refine WP.seq ?_
      refine WP.regionQ (by kernel_rfl) (by kernel_rfl) ?_
      refine RQ.pv rfl (PV.move (v := v) rfl rfl) ?_
      refine RQ.pv rfl (PV.mvI (.inl rfl) rfl) ?_
      refine RQ.pv rfl (PV.idxS (v := v) rfl Is66 rfl (SlF.r h1) rfl rfl (by omega)) ?_
      refine RQ.pv rfl (PV.loadE rfl Ag59 rfl rfl (El.r h1 (getG (by omega)))) ?_
      refine RQ.pv rfl (PV.move (v := u) rfl rfl) ?_
      refine RQ.pv rfl (PV.mvI (.inl rfl) rfl) ?_
      refine RQ.pv rfl (PV.idxS (v := u) rfl Is66 rfl (SlF.r h2) rfl rfl (by omega)) ?_
      refine RQ.pv rfl (PV.loadE rfl Ag59 rfl rfl (El.r h2 (getG (by omega)))) ?_
      refine RQ.pv rfl (PV.neqT rfl Eq59 rfl rfl) ?_
      refine RQ.nil ?_
      refine WP.cond rfl (fun h6 => ?_) (fun h6 => ?_)
      · have e : decide (xs = ys) = false := by
          rw [decide_eq_false_iff_not]; rintro rfl; simp at h6
        rw [e] at k
        refine WP.seq ?_
        refine WP.region ?_
        refine RG.pv rfl (PV.mvB (.inr rfl) rfl) ?_
        refine RG.nil ?_
        refine WP.ret ?_
        exact ⟨_, _, ResV.one rfl rfl, Cv.p, k⟩
      · have e : gd xs i = gd ys i := by simpa using h6
        have he' : ∀ j, j < i + 1 → xs[j]? = ys[j]? := fun j h => by
          by_cases c : j = i
          · rw [c, getG h5, getG (show i < ys.length by omega), e]
          · exact he j (by omega)
        refine WP.skip ?_
        refine WP.region ?_
        refine RG.pv rfl (PV.add rfl rfl rfl (by omega)) ?_
        refine RG.pv rfl (PV.mvI (.inl rfl) rfl) ?_
        refine RG.nil ?_
        exact ⟨rfl, i + 1, ⟨by omega, he'⟩, ⟨rfl, trivial⟩, ⟨rfl, rfl, rfl, trivial⟩, Cv.p, by omega⟩
    · have h4 := of_decide_eq_false h4
      have e : decide (xs = ys) = true := by
        rw [decide_eq_true_iff]; exact pre_eq he hl (by omega)
      rw [e] at k
      refine WP.exit ?_
      refine WP.seq ?_
      refine WP.region ?_
      refine RG.pv rfl (PV.mvB (.inr rfl) rfl) ?_
      refine RG.nil ?_
      refine WP.ret ?_
      exact ⟨_, _, ResV.one rfl rfl, Cv.p, k⟩
def isReg (xs : List Rect) : Bool := validRs xs && decide (canon (bits xs) = xs)
theorem isRegion_s {v : Value} {xs : List Rect} (h1 : Rs G L rectT v xs) (k : R (.bool (isReg xs)) G L) : CallT Tryz.prog 106 #[v] G L R := by
  refine CallT.enter (args := _) Tryz.func106 rfl rfl (by kernel_rfl) rfl ?_
  refine WP.seq ?_
  refine WP.region ?_
  refine RG.pv rfl (PV.mvB (.inr rfl) rfl) ?_
  refine RG.nil ?_
  refine WP.seq ?_
  refine WP.region ?_
  refine RG.pv rfl (PV.move (v := v) rfl rfl) ?_
  refine RG.callF (vs := [v]) rfl rfl En149 rfl (validRects_s (Rs.up h1) ?_)
  refine RG.pv rfl (PV.mvB (.inl rfl) rfl) ?_
  refine RG.spl (t := 5) rfl (fun h2 => ?_) (fun h2 => ?_)
  · have e : isReg xs = decide (canon (bits xs) = xs) := by simp [isReg, h2]
    rw [e] at k
    refine RG.take rfl rfl rfl h2 ?_
    refine RG.pv rfl (PV.move (v := v) rfl rfl) ?_
    refine RG.take rfl rfl rfl h2 ?_
    refine RG.callF (vs := [v]) rfl rfl En124 rfl (cellsOf_s (Rs.up h1) (fun b7 => ?_))
    refine RG.take rfl rfl rfl h2 ?_
    refine RG.callF (vs := [_]) rfl rfl En151 rfl (CallT.exB (region_s (bits_length _) (fun v8 => ?_)))
    refine RG.take rfl rfl rfl h2 ?_
    refine RG.pv rfl (PV.move (v := v) rfl rfl) ?_
    refine RG.take rfl rfl rfl h2 ?_
    refine RG.callF (vs := [v8, v]) rfl rfl En150 rfl (equal_s Rs.o (Rs.up h1) ?_)
    refine RG.pv rfl (PV.pickT rfl rfl h2 rfl) ?_
    refine RG.pv rfl (PV.mvB (.inr rfl) rfl) ?_
    refine RG.nil ?_
    refine WP.ret ?_
    exact ⟨_, _, ResV.one rfl rfl, Cv.p, k⟩
  · have e : isReg xs = false := by simp [isReg, h2]
    rw [e] at k
    refine RG.skip rfl rfl rfl (gne h2) ?_
    refine RG.skip rfl rfl rfl (gne h2) ?_
    refine RG.skip rfl rfl rfl (gne h2) ?_
    refine RG.skip rfl rfl rfl (gne h2) ?_
    refine RG.skip rfl rfl rfl (gne h2) ?_
    refine RG.pv rfl (PV.pickE rfl rfl h2 rfl) ?_
    refine RG.pv rfl (PV.mvB (.inr rfl) rfl) ?_
    refine RG.nil ?_
    refine WP.ret ?_
    exact ⟨_, _, ResV.one rfl rfl, Cv.p, k⟩
end Go.Proofs.YthjaopefoiploaaGreat
