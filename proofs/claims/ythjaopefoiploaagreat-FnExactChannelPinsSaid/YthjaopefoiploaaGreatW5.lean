/-
  Contracts: the reference's flags of a list of rectangles; its canonical list of a set of flags.
-/
import Derived.Test.YthjaopefoiploaaGreatW4
namespace Go.Proofs.YthjaopefoiploaaGreat
open Go
set_option maxRecDepth 20000
set_option linter.unusedSimpArgs false
variable {G : Gh} {L : List Ch} {R : Value → Gh → List Ch → Prop}
theorem l03Bits_s {v : Value} {xs : List Rect} (h1 : Rs G L rectT v xs) (hv : ∀ i, i < xs.length → validRect (gd xs i) = true) (k : ∀ v', R v' G (osl 4 boolT v' (bits xs) :: L)) : CallT Tryz.prog 101 #[v] G L R := by
  refine CallT.bd h1 fun hb => ?_
  refine CallT.enter (args := _) Tryz.func101 rfl rfl (by kernel_rfl) rfl ?_
  refine WP.seq ?_
  refine WP.region ?_
  refine RG.pv rfl (PV.asg rfl rfl) ?_
  refine RG.nil ?_
  refine WP.seq ?_
  refine WP.region ?_
  refine RG.ot rfl (OT.make (m := 6400) (F := boolT) (a0 := false) rfl El142 rfl (by decide) rfl rfl (by omega) (by omega) fun v7 => ?_)
  refine RG.pv rfl (PV.asg (v := v7) rfl rfl) ?_
  refine RG.nil ?_
  refine WP.seq ?_
  refine WP.seq ?_
  refine WP.region ?_
  refine RG.pv rfl (PV.mvI (.inr rfl) rfl) ?_
  refine RG.nil ?_
  refine WP.block ?_
  refine WP.loop2 [0, 3] (fun (i : Nat) (bs : List Bool) => i ≤ xs.length ∧ bs.length = 6400 ∧ ∀ y x, y < 80 → x < 80 → gb bs y x = (xs.take i).any fun r => inR r y x) (fun (i : Nat) (bs : List Bool) => [(4, vi i)]) (fun (i : Nat) (bs : List Bool) => osl 4 boolT v7 bs :: L) (fun (i : Nat) (bs : List Bool) => xs.length - i) 0 (List.replicate 6400 false) ⟨by omega, by simp, fun y x _ _ => by rw [gb_rep]; simp⟩ ⟨rfl, trivial⟩ Cv.p ?_
  rintro i bs τ ⟨hi, hl, hc⟩
  refine WP.seq ?_
  refine WP.seq ?_
  refine WP.region ?_
  refine RG.pv rfl (PV.mvI (.inl rfl) rfl) ?_
  refine RG.pv rfl (PV.move (v := v) rfl rfl) ?_
  refine RG.pv rfl (PV.len (v := v) rfl Tryz.underlying66 rfl (SlF.r h1)) ?_
  refine RG.pv rfl (PV.lss rfl rfl rfl) ?_
  refine RG.nil ?_
  refine WP.cond rfl (fun h2 => ?_) (fun h2 => ?_)
  · have h2 := of_decide_eq_true h2
    have hi' : i < xs.length := by omega
    have hr := valid_bd (hv i hi')
    refine WP.skip ?_
    refine WP.seq ?_
    refine WP.block ?_
    refine WP.seq ?_
    refine WP.region ?_
    refine RG.pv rfl (PV.move (v := v) rfl rfl) ?_
    refine RG.pv rfl (PV.mvI (.inl rfl) rfl) ?_
    refine RG.pv rfl (PV.idxS (v := v) rfl Is66 rfl (SlF.r h1) rfl rfl (by omega)) ?_
    refine RG.pv rfl (PV.field rfl Fo59_1 rfl) ?_
    refine RG.pv rfl (PV.loadF rfl Sc2 rfl rfl (El.r h1 (getG (by omega))) rfl) ?_
    refine RG.pv rfl (PV.mvI (.inr rfl) rfl) ?_
    refine RG.nil ?_
    refine WP.block ?_
    refine WP.loop2 [0, 3, 4] (fun (y : Int) (cs : List Bool) => (gd xs i).y0 ≤ y ∧ y ≤ (gd xs i).y1 ∧ cs.length = 6400 ∧ ∀ y' x', y' < 80 → x' < 80 → gb cs y' x' = (gb bs y' x' || (inR (gd xs i) y' x' && decide ((y' : Int) - 40 < y)))) (fun (y : Int) (cs : List Bool) => [(5, vi y)]) (fun (y : Int) (cs : List Bool) => osl 4 boolT v7 cs :: L) (fun (y : Int) (cs : List Bool) => (40 - y).toNat) (gd xs i).y0 bs ⟨by omega, by omega, hl, fun y' x' h1 h2 => by rw [Bool.eq_iff_iff]; simp [inR]; omega⟩ ⟨rfl, trivial⟩ Cv.p ?_
    rintro y cs τ1 ⟨hy0, hy1, hlc, hcc⟩
    refine WP.seq ?_
    refine WP.seq ?_
    refine WP.region ?_
    refine RG.pv rfl (PV.mvI (.inl rfl) rfl) ?_
    refine RG.pv rfl (PV.move (v := v) rfl rfl) ?_
    refine RG.pv rfl (PV.mvI (.inl rfl) rfl) ?_
    refine RG.pv rfl (PV.idxS (v := v) rfl Is66 rfl (SlF.r h1) rfl rfl (by omega)) ?_
    refine RG.pv rfl (PV.field rfl Fo59_3 rfl) ?_
    refine RG.pv rfl (PV.loadF rfl Sc2 rfl rfl (El.r h1 (getG (by omega))) rfl) ?_
    refine RG.pv rfl (PV.lss rfl rfl rfl) ?_
    refine RG.nil ?_
    refine WP.cond rfl (fun h3 => ?_) (fun h3 => ?_)
    · have h3 := of_decide_eq_true h3
      refine WP.skip ?_
      refine WP.seq ?_
      refine WP.block ?_
      refine WP.seq ?_
      refine WP.region ?_
      refine RG.pv rfl (PV.move (v := v) rfl rfl) ?_
      refine RG.pv rfl (PV.mvI (.inl rfl) rfl) ?_
      refine RG.pv rfl (PV.idxS (v := v) rfl Is66 rfl (SlF.r h1) rfl rfl (by omega)) ?_
      refine RG.pv rfl (PV.field rfl Fo59_0 rfl) ?_
      refine RG.pv rfl (PV.loadF rfl Sc2 rfl rfl (El.r h1 (getG (by omega))) rfl) ?_
      refine RG.pv rfl (PV.mvI (.inr rfl) rfl) ?_
      refine RG.nil ?_
      refine WP.block ?_
      refine WP.loop2 [0, 3, 4, 5] (fun (x : Int) (ds : List Bool) => (gd xs i).x0 ≤ x ∧ x ≤ (gd xs i).x1 ∧ ds.length = 6400 ∧ ∀ y' x', y' < 80 → x' < 80 → gb ds y' x' = (gb cs y' x' || (decide ((y' : Int) - 40 = y) && decide ((gd xs i).x0 ≤ (x' : Int) - 40) && decide ((x' : Int) - 40 < x)))) (fun (x : Int) (ds : List Bool) => [(6, vi x)]) (fun (x : Int) (ds : List Bool) => osl 4 boolT v7 ds :: L) (fun (x : Int) (ds : List Bool) => (40 - x).toNat) (gd xs i).x0 cs ⟨by omega, by omega, hlc, fun y' x' h1 h2 => by rw [Bool.eq_iff_iff]; simp; omega⟩ ⟨rfl, trivial⟩ Cv.p ?_
      rintro x ds τ2 ⟨hx0, hx1, hld, hd⟩
      refine WP.seq ?_
      refine WP.seq ?_
      refine WP.region ?_
      refine RG.pv rfl (PV.mvI (.inl rfl) rfl) ?_
      refine RG.pv rfl (PV.move (v := v) rfl rfl) ?_
      refine RG.pv rfl (PV.mvI (.inl rfl) rfl) ?_
      refine RG.pv rfl (PV.idxS (v := v) rfl Is66 rfl (SlF.r h1) rfl rfl (by omega)) ?_
      refine RG.pv rfl (PV.field rfl Fo59_2 rfl) ?_
      refine RG.pv rfl (PV.loadF rfl Sc2 rfl rfl (El.r h1 (getG (by omega))) rfl) ?_
      refine RG.pv rfl (PV.lss rfl rfl rfl) ?_
      refine RG.nil ?_
      refine WP.cond rfl (fun h4 => ?_) (fun h4 => ?_)
      · have h4 := of_decide_eq_true h4
        refine WP.skip ?_
        refine WP.seq ?_
        refine WP.block ?_
        refine WP.region ?_
        refine RG.pv rfl (PV.move (v := v7) rfl rfl) ?_
        refine RG.pv rfl (PV.mvI (.inl rfl) rfl) ?_
        refine RG.pv rfl (PV.mvI (.inl rfl) rfl) ?_
        refine RG.callF (vs := [_, _]) rfl rfl En146 rfl (l03At_s (by first | omega | (simp [within] at hp; omega)) ?_)
        refine RG.pv rfl (PV.idxS (j := ((y + 40) * 80 + x + 40).toNat) (v := v7) rfl Is142 rfl SlF.o rfl (by omega) (by omega)) ?_
        refine RG.ot rfl (OT.storeE (F := boolT) rfl Sz4 rfl rfl rfl (Cl.c rfl) (OneC.c rfl) (by omega) ?_)
        refine RG.nil ?_
        refine WP.region ?_
        refine RG.pv rfl (PV.mvI (.inl rfl) rfl) ?_
        refine RG.pv rfl (PV.add rfl rfl rfl (by omega)) ?_
        refine RG.pv rfl (PV.mvI (.inr rfl) rfl) ?_
        refine RG.nil ?_
        refine ⟨rfl, x + 1, (ds.set ((y + 40) * 80 + x + 40).toNat true), ⟨by omega, by omega, by simpa using hld, fun y' x' h5 h6 => ?_⟩, ⟨rfl, trivial⟩, ⟨rfl, rfl, rfl, rfl, trivial⟩, Cv.p, by omega⟩
        rw [show ((y + 40) * 80 + x + 40).toNat = (y + 40).toNat * 80 + (x + 40).toNat by omega, gb_set hld (by omega) (by omega) h6, hd y' x' h5 h6]
        cases gb cs y' x' <;> (rw [Bool.eq_iff_iff]; split <;> simp <;> omega)
      · have h4 := of_decide_eq_false h4
        refine WP.exit ?_
        refine WP.region ?_
        refine RG.pv rfl (PV.mvI (.inl rfl) rfl) ?_
        refine RG.pv rfl (PV.add rfl rfl rfl (by omega)) ?_
        refine RG.pv rfl (PV.mvI (.inr rfl) rfl) ?_
        refine RG.nil ?_
        refine ⟨rfl, y + 1, ds, ⟨by omega, by omega, hld, fun y' x' h5 h6 => ?_⟩, ⟨rfl, trivial⟩, ⟨rfl, rfl, rfl, trivial⟩, Cv.p, by omega⟩
        rw [hd y' x' h5 h6, hcc y' x' h5 h6]
        cases gb bs y' x' <;> (rw [Bool.eq_iff_iff]; simp [inR]; try omega)
    · have h3 := of_decide_eq_false h3
      refine WP.exit ?_
      refine WP.region ?_
      refine RG.pv rfl (PV.mvI (.inl rfl) rfl) ?_
      refine RG.pv rfl (PV.add rfl rfl rfl (by omega)) ?_
      refine RG.pv rfl (PV.mvI (.inr rfl) rfl) ?_
      refine RG.nil ?_
      refine ⟨rfl, i + 1, cs, ⟨by omega, hlc, fun y' x' h5 h6 => ?_⟩, ⟨rfl, trivial⟩, ⟨rfl, rfl, trivial⟩, Cv.p, by omega⟩
      rw [hcc y' x' h5 h6, hc y' x' h5 h6, List.take_add_one, getG hi', List.any_append]
      have e : (inR (gd xs i) y' x' && decide ((y' : Int) - 40 < y)) = inR (gd xs i) y' x' := by
        rw [Bool.eq_iff_iff]; simp [inR]; omega
      rw [e]; simp
  · have h2 := of_decide_eq_false h2
    have e : bs = bits xs := bits_eq hl fun y x h3 h4 => by rw [hc y x h3 h4, List.take_of_length_le (by omega)]
    subst e
    refine WP.exit ?_
    refine WP.seq ?_
    refine WP.region ?_
    refine RG.pv rfl (PV.move (v := v7) rfl rfl) ?_
    refine RG.pv rfl (PV.asg (v := v7) rfl rfl) ?_
    refine RG.nil ?_
    refine WP.ret ?_
    exact ⟨_, _, ResV.one rfl rfl, Cv.p, k v7⟩
theorem gd_map {α β : Type} [Inhabited α] [Inhabited β] (f : α → β) {xs : List α} {i : Nat} (h : i < xs.length) : gd (xs.map f) i = f (gd xs i) := by
  rw [gd_eq h, gd_eq (by simpa using h)]; simp
theorem toI_inj {a b : List Nat} : (a.map toI = b.map toI) ↔ a = b := by
  constructor
  · intro h
    refine (List.map_inj_right fun x y hxy => ?_).1 h
    simp only [toI] at hxy; omega
  · rintro rfl; rfl
theorem runsI_eq (bs : List Bool) (e y : Int) : decide (runsI bs e = runsI bs y) = rowsEq bs (e + 40).toNat (y + 40).toNat := by
  rw [rowsEq, decide_eq_decide, runsI, runsI]; exact toI_inj
theorem pairs_drop {l : List Nat} {i : Nat} (h : i + 1 < l.length) : pairs (l.drop i) = (gd l i, gd l (i + 1)) :: pairs (l.drop (i + 2)) := by
  rw [List.drop_eq_getElem_cons (show i < l.length by omega), List.drop_eq_getElem_cons h, pairs, gd_eq (show i < l.length by omega), gd_eq h]
theorem pairs_nil {l : List Nat} {i : Nat} (h : ¬ i + 1 < l.length) : pairs (l.drop i) = [] := by
  have : (l.drop i).length ≤ 1 := by simp; omega
  match l.drop i, this with
  | [], _ => rfl
  | [_], _ => rfl
  | _ :: _ :: _, h => simp at h
theorem l03Canon_s {v : Value} {bs : List Bool} (h1 : Rs G L boolT v bs) (hl : bs.length = 6400) (k : ∀ v', R v' G (osl 59 rectT v' (canon bs) :: L)) : CallT Tryz.prog 114 #[v] G L R := by
  refine CallT.enter (args := _) Tryz.func114 rfl rfl (by kernel_rfl) rfl ?_
  refine WP.seq ?_
  refine WP.region ?_
  refine RG.pv rfl (PV.asg rfl rfl) ?_
  refine RG.nil ?_
  refine WP.seq ?_
  refine WP.region ?_
  refine RG.ot rfl (OT.bslice (F := rectT) (els := []) rfl El66 rfl (by decide) rfl (by decide) trivial fun v8 => ?_)
  refine RG.pv rfl (PV.asg (v := v8) rfl rfl) ?_
  refine RG.nil ?_
  refine WP.seq ?_
  refine WP.region ?_
  refine RG.pv rfl (PV.mvI (.inr rfl) rfl) ?_
  refine RG.nil ?_
  refine WP.seq ?_
  refine WP.block ?_
  refine WP.loop3 [0] (fun (y : Int) (out : List Rect) (v0 : Value) => -40 ≤ y ∧ y ≤ 40 ∧ canon bs = out ++ canonFrom bs (y + 40).toNat ∧ out.length ≤ 81 * (y + 40).toNat) (fun (y : Int) (out : List Rect) (v0 : Value) => [(4, vi y), (3, v0)]) (fun (y : Int) (out : List Rect) (v0 : Value) => osl 59 rectT v0 out :: L) (fun (y : Int) (out : List Rect) (v0 : Value) => (40 - y).toNat) (-40) [] v8 ⟨by omega, by omega, rfl, by simp⟩ ⟨rfl, rfl, trivial⟩ Cv.p ?_
  rintro y out v0 τ ⟨hy0, hy1, hc, hlen⟩
  refine WP.seq ?_
  refine WP.seq ?_
  refine WP.region ?_
  refine RG.pv rfl (PV.mvI (.inl rfl) rfl) ?_
  refine RG.pv rfl (PV.lss rfl rfl rfl) ?_
  refine RG.nil ?_
  refine WP.cond rfl (fun h2 => ?_) (fun h2 => ?_)
  · have h2 := of_decide_eq_true h2
    refine WP.skip ?_
    refine WP.block ?_
    refine WP.seq ?_
    refine WP.region ?_
    refine RG.pv rfl (PV.move (v := v) rfl rfl) ?_
    refine RG.pv rfl (PV.mvI (.inl rfl) rfl) ?_
    refine RG.callF (vs := [v, _]) rfl rfl En157 rfl (l03Runs_s (Rs.up h1) hl (by omega) (fun v13 => ?_))
    refine RG.pv rfl (PV.asg (v := v13) rfl rfl) ?_
    refine RG.nil ?_
    refine WP.seq ?_
    refine WP.region ?_
    refine RG.pv rfl (PV.mvI (.inl rfl) rfl) ?_
    refine RG.pv rfl (PV.add rfl rfl rfl (by omega)) ?_
    refine RG.pv rfl (PV.mvI (.inr rfl) rfl) ?_
    refine RG.nil ?_
    refine WP.cut1 [0, 3, 4, 5] (fun (e : Int) => y + 1 ≤ e ∧ e ≤ 40 ∧ endFrom bs (y + 40).toNat ((y + 40).toNat + 1) = (e + 40).toNat) (fun (e : Int) => [(6, vi e)]) (fun (e : Int) => osl 2 intT v13 (runsI bs y) :: osl 59 rectT v0 out :: L) ?_ ?_
    refine WP.block ?_
    · refine WP.loop1 [0, 3, 4, 5] (fun (e : Int) => y + 1 ≤ e ∧ e ≤ 40 ∧ endFrom bs (y + 40).toNat ((y + 40).toNat + 1) = endFrom bs (y + 40).toNat (e + 40).toNat) (fun (e : Int) => [(6, vi e)]) (fun (e : Int) => osl 2 intT v13 (runsI bs y) :: osl 59 rectT v0 out :: L) (fun (e : Int) => (40 - e).toNat) (y + 1) ⟨by omega, by omega, by congr 1; omega⟩ ⟨rfl, trivial⟩ Cv.p ?_
      rintro e τ1 ⟨he0, he1, hee⟩
      refine WP.seq ?_
      refine WP.seq ?_
      refine WP.region ?_
      refine RG.pv rfl (PV.mvI (.inl rfl) rfl) ?_
      refine RG.pv rfl (PV.lss rfl rfl rfl) ?_
      refine RG.pv rfl (PV.mvB (.inl rfl) rfl) ?_
      refine RG.spl (t := 18) rfl (fun h3 => ?_) (fun h3 => ?_)
      · have h6 := of_decide_eq_true h3
        refine RG.take rfl rfl rfl h3 ?_
        refine RG.pv rfl (PV.move (v := v) rfl rfl) ?_
        refine RG.take rfl rfl rfl h3 ?_
        refine RG.pv rfl (PV.mvI (.inl rfl) rfl) ?_
        refine RG.take rfl rfl rfl h3 ?_
        refine RG.callF (vs := [v, _]) rfl rfl En157 rfl (l03Runs_s (Rs.up h1) hl (by omega) (fun v21 => ?_))
        refine RG.take rfl rfl rfl h3 ?_
        refine RG.pv rfl (PV.move (v := v13) rfl rfl) ?_
        refine RG.take rfl rfl rfl h3 ?_
        refine RG.callF (vs := [v21, v13]) rfl rfl En158 rfl (l03Equal_s Rs.o Rs.o ?_)
        refine RG.pv rfl (PV.pickT rfl rfl h3 rfl) ?_
        refine RG.nil ?_
        refine WP.cond rfl (fun h4 => ?_) (fun h4 => ?_)
        · rw [runsI_eq] at h4
          refine WP.skip ?_
          refine WP.block ?_
          refine WP.region ?_
          refine RG.pv rfl (PV.mvI (.inl rfl) rfl) ?_
          refine RG.pv rfl (PV.add rfl rfl rfl (by omega)) ?_
          refine RG.pv rfl (PV.mvI (.inr rfl) rfl) ?_
          refine RG.nil ?_
          refine ⟨rfl, e + 1, ⟨by omega, by omega, ?_⟩, ⟨rfl, trivial⟩, ⟨rfl, rfl, rfl, rfl, trivial⟩, Cv.p, by omega⟩
          rw [hee, endFrom, if_pos ⟨by omega, h4⟩]; congr 1; omega
        · rw [runsI_eq] at h4
          have h5 : endFrom bs (y + 40).toNat ((y + 40).toNat + 1) = (e + 40).toNat := by
            rw [hee, endFrom, if_neg (by simp [h4])]
          refine WP.exit ?_
          exact ⟨rfl, e, ⟨he0, he1, h5⟩, ⟨rfl, trivial⟩, ⟨rfl, rfl, rfl, rfl, trivial⟩, Cv.p⟩
      · have h6 := of_decide_eq_false h3
        have h5 : endFrom bs (y + 40).toNat ((y + 40).toNat + 1) = (e + 40).toNat := by
          rw [hee, endFrom, if_neg (by omega)]
        refine RG.skip rfl rfl rfl (gne h3) ?_
        refine RG.skip rfl rfl rfl (gne h3) ?_
        refine RG.skip rfl rfl rfl (gne h3) ?_
        refine RG.skip rfl rfl rfl (gne h3) ?_
        refine RG.skip rfl rfl rfl (gne h3) ?_
        refine RG.pv rfl (PV.pickE rfl rfl h3 rfl) ?_
        refine RG.nil ?_
        refine WP.cond rfl (fun h4 => ?_) (fun h4 => ?_)
        · cases h4
        · refine WP.exit ?_
          exact ⟨rfl, e, ⟨he0, he1, h5⟩, ⟨rfl, trivial⟩, ⟨rfl, rfl, rfl, rfl, trivial⟩, Cv.p⟩
    · rintro e τ2 ⟨he0, he1, h5⟩
      refine WP.seq ?_
      refine WP.seq ?_
      refine WP.region ?_
      refine RG.pv rfl (PV.mvI (.inr rfl) rfl) ?_
      refine RG.nil ?_
      refine WP.block ?_
      refine WP.loop3 [0, 4, 5, 6] (fun (i : Nat) (out' : List Rect) (v' : Value) => i ≤ 82 ∧ out ++ (pairs (trans (gb bs (y + 40).toNat))).map (mkR (y + 40).toNat (e + 40).toNat) = out' ++ (pairs ((trans (gb bs (y + 40).toNat)).drop i)).map (mkR (y + 40).toNat (e + 40).toNat) ∧ 2 * out'.length ≤ 2 * out.length + i) (fun (i : Nat) (out' : List Rect) (v' : Value) => [(7, vi i), (3, v')]) (fun (i : Nat) (out' : List Rect) (v' : Value) => osl 2 intT v13 (runsI bs y) :: osl 59 rectT v' out' :: L) (fun (i : Nat) (out' : List Rect) (v' : Value) => 84 - i) 0 out v0 ⟨by omega, rfl, by omega⟩ ⟨rfl, rfl, trivial⟩ Cv.p ?_
      rintro i out' v' τ3 ⟨hi, ho, hl2⟩
      refine WP.seq ?_
      refine WP.seq ?_
      refine WP.region ?_
      refine RG.pv rfl (PV.mvI (.inl rfl) rfl) ?_
      refine RG.pv rfl (PV.add rfl rfl rfl (by omega)) ?_
      refine RG.pv rfl (PV.move (v := v13) rfl rfl) ?_
      refine RG.pv rfl (PV.len (v := v13) rfl Tryz.underlying35 rfl SlF.o) ?_
      refine RG.pv rfl (PV.lss rfl rfl rfl) ?_
      refine RG.nil ?_
      have ht := trans_len (gb bs (y + 40).toNat)
      have hrl : (runsI bs y).length = (trans (gb bs (y + 40).toNat)).length := by simp [runsI]
      refine WP.cond rfl (fun h6 => ?_) (fun h6 => ?_)
      · have h6 := of_decide_eq_true h6
        have h7 : i + 1 < (trans (gb bs (y + 40).toNat)).length := by omega
        refine WP.skip ?_
        refine WP.seq ?_
        refine WP.block ?_
        refine WP.regionHD [.s v'] (.q 0 (.q 1 (.q 2 (.q 3 (.q 4 (.q 5 (.q 6 (.q 7 (.q 8 (.q 9 (.q 10 (.q 11 (.q 12 (.l 13 (.l 14 (.q 15 Sch.nil)))))))))))))))) (by kernel_rfl) (by kernel_rfl) (by kernel_rfl) rfl ?_
        refine RH.pv rfl (fun _ _ _ _ h => h) (Gh.le_refl _) PickC.pick rfl (PV.move (v := v') rfl rfl) ?_
        refine RH.pv rfl (fun _ _ _ _ h => h) (Gh.le_refl _) PickC.pick rfl (PV.move (v := v13) rfl rfl) ?_
        refine RH.pv rfl (fun _ _ _ _ h => h) (Gh.le_refl _) PickC.pick rfl (PV.mvI (.inl rfl) rfl) ?_
        refine RH.pv rfl (fun _ _ _ _ h => h) (Gh.le_refl _) PickC.pick rfl (PV.idxS (v := v13) rfl Is35 rfl SlF.o rfl rfl (by omega)) ?_
        refine RH.pv rfl (fun _ _ _ _ h => h) (Gh.le_refl _) PickC.pick rfl (PV.loadE1 rfl Sc2 rfl rfl (El.o (getG (by omega))) rfl) ?_
        refine RH.pv rfl (fun _ _ _ _ h => h) (Gh.le_refl _) PickC.pick rfl (PV.mvI (.inl rfl) rfl) ?_
        refine RH.pv rfl (fun _ _ _ _ h => h) (Gh.le_refl _) PickC.pick rfl (PV.move (v := v13) rfl rfl) ?_
        refine RH.pv rfl (fun _ _ _ _ h => h) (Gh.le_refl _) PickC.pick rfl (PV.mvI (.inl rfl) rfl) ?_
        refine RH.pv rfl (fun _ _ _ _ h => h) (Gh.le_refl _) PickC.pick rfl (PV.add rfl rfl rfl (by omega)) ?_
        refine RH.pv rfl (fun _ _ _ _ h => h) (Gh.le_refl _) PickC.pick rfl (PV.idxS (j := i + 1) (v := v13) rfl Is35 rfl SlF.o rfl (by omega) (by omega)) ?_
        refine RH.pv rfl (fun _ _ _ _ h => h) (Gh.le_refl _) PickC.pick rfl (PV.loadE1 rfl Sc2 rfl rfl (El.o (getG (by omega))) rfl) ?_
        refine RH.pv rfl (fun _ _ _ _ h => h) (Gh.le_refl _) PickC.pick rfl (PV.mvI (.inl rfl) rfl) ?_
        refine RH.pv rfl (fun _ _ _ _ h => h) (Gh.le_refl _) PickC.pick rfl (PV.build (vs := [(0, [vi _]), (1, [vi _]), (2, [vi _]), (3, [vi _])]) (out := [_, _, _, _]) rfl Zr59 Pl59 ⟨rfl, (Cl.c rfl), ⟨rfl, (Cl.c rfl), ⟨rfl, (Cl.c rfl), ⟨rfl, (Cl.c rfl), trivial⟩⟩⟩⟩ rfl) ?_
        refine RH.ot rfl rfl (OT.bslice (F := rectT) (els := [⟨_, _, _, _⟩]) rfl El66 rfl (by decide) rfl (by decide) ⟨rfl, (Cl.c rfl), trivial⟩ fun v47 => ⟨Gh.le_refl _, PickC.pick, ?_⟩)
        refine RH.ot rfl rfl (OT.append (v := v') (u := v47) (F := rectT) rfl El66 rfl (by decide) rfl rfl Rs.o (OneL.c (fun _ => rfl)) rfl (by first | omega | (simp <;> omega)) fun v48 => ⟨Gh.le_refl _, PickC.pick, ?_⟩)
        refine RH.pv rfl (fun _ _ _ _ h => h) (Gh.le_refl _) PickC.pick rfl (PV.asg (v := v48) rfl rfl) ?_
        refine RH.nil ?_
        refine WP.region ?_
        refine RG.pv rfl (PV.mvI (.inl rfl) rfl) ?_
        refine RG.pv rfl (PV.add rfl rfl rfl (by omega)) ?_
        refine RG.pv rfl (PV.mvI (.inr rfl) rfl) ?_
        refine RG.nil ?_
        refine ⟨rfl, i + 2, (out' ++ [⟨gd (runsI bs y) i, y, gd (runsI bs y) (i + 1), e⟩]), v48, ⟨by omega, ?_, by simp; omega⟩, ⟨rfl, rfl, trivial⟩, ⟨rfl, rfl, rfl, rfl, trivial⟩, Cv.p, by omega⟩
        rw [ho, pairs_drop h7, runsI, gd_map _ (by omega), gd_map _ h7]
        simp only [List.map_cons, mkR, toI, List.append_assoc, List.singleton_append, List.cons_append, List.nil_append]
        congr 3 <;> omega
      · have h6 := of_decide_eq_false h6
        refine WP.exit ?_
        refine WP.region ?_
        refine RG.pv rfl (PV.mvI (.inl rfl) rfl) ?_
        refine RG.pv rfl (PV.mvI (.inr rfl) rfl) ?_
        refine RG.nil ?_
        refine ⟨rfl, e, out', v', ⟨by omega, by omega, ?_, ?_⟩, ⟨rfl, rfl, trivial⟩, ⟨rfl, trivial⟩, Cv.p, by omega⟩
        · have h8 : (y + 40).toNat < 80 := by omega
          rw [hc, canonFrom, if_pos h8, h5, ← pairs_trans0, ← List.append_assoc, ho, pairs_nil (by omega)]
          simp
        · omega
  · have h2 := of_decide_eq_false h2
    have e : out = canon bs := by
      have : (y + 40).toNat = 80 := by omega
      rw [hc, this, canonFrom]; simp
    rw [e]
    refine WP.exit ?_
    refine WP.seq ?_
    refine WP.region ?_
    refine RG.pv rfl (PV.move (v := v0) rfl rfl) ?_
    refine RG.pv rfl (PV.asg (v := v0) rfl rfl) ?_
    refine RG.nil ?_
    refine WP.ret ?_
    exact ⟨_, _, ResV.one rfl rfl, Cv.p, k v0⟩
end Go.Proofs.YthjaopefoiploaaGreat
