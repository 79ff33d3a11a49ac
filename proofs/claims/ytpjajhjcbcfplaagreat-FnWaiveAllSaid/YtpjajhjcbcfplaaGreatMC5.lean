/-
  Contracts of functions and plain facts that the last text of this folder uses, part 5.
-/
import Derived.Test.YtpjajhjcbcfplaaGreatMC4
namespace Go.Proofs.YtpjajhjcbcfplaaGreat
set_option linter.unusedVariables false
set_option linter.unusedSimpArgs false
open Go
set_option maxRecDepth 20000
set_option maxHeartbeats 4000000
set_option linter.unusedSimpArgs false
variable {G : Gh} {L : List Ch} {R : Value → Gh → List Ch → Prop}
def dLay (bs : List UInt8) (ls : List (List Rect)) : Nat → Int → Pl → Int × Pl
  | 0, l, p => (l, p)
  | n + 1, l, p => if (gd ls l.toNat).length = 0 then (if (nx bs p 6).1 = 0 then (l, (nx bs p 6).2) else dLay bs ls n ((l + 1) % 8) (nx bs p 6).2) else (l, p)
def dOth (bs : List UInt8) (k n v : Int) (p : Pl) : Rule × Pl := if paired k = true then (⟨k, n, (n + 1 + (nx bs p 7).1) % 8, v + 1, 0⟩, (nx bs p 7).2) else (⟨k, n, 0, v + 1, 0⟩, p)
def dAr (bs : List UInt8) (r : Rule) (p : Pl) : Rule × Pl := if r.kind = 4 then (⟨r.kind, r.layer, r.other, (nx bs p 30).1 + 1, r.percent⟩, (nx bs p 30).2) else (r, p)
def dRule (bs : List UInt8) (ls : List (List Rect)) (p : Pl) : Rule × Pl :=
  match nx bs p 8 with
  | (a, p1) => match dLay bs ls 8 a p1 with
  | (n, p2) => match nx bs p2 5 with
  | (k, p3) => match nx bs p3 4 with
  | (v, p4) => match dOth bs k n v p4 with
  | (r, p5) => dAr bs r p5
def dRls (bs : List UInt8) (ls : List (List Rect)) : Nat → List Rule → Pl → List Rule × Pl
  | 0, rs, p => (rs, p)
  | n + 1, rs, p => dRls bs ls n (if hasR rs (dRule bs ls p).1 = true then rs else rs ++ [(dRule bs ls p).1]) (dRule bs ls p).2
def dDeck (bs : List UInt8) (ls : List (List Rect)) (p : Pl) : List Rule × Pl :=
  match nx bs p 4 with
  | (a, p1) => match dRls bs ls (a + 1).toNat [] p1 with
  | (rs, p2) => match nx bs p2 10 with
  | (c, p3) => ((if c = 0 then rs ++ [⟨5, 3, 0, 40, 10⟩] else rs), p3)
theorem dDeck_s {b : Nat} {cv v : Value} {bs : List UInt8} {ys : List (Sl Rect)} {p : Pl} (hcode : SL G byteT cv bs) (hp : OkP p) (h1 : Rs G L slT v ys) (hd : RsE G L rectT ys) (hyl : ys.length = 8) (k : ∀ v' rs p', dDeck bs (er ys) p = (rs, p') → OkP p' → rs.length ≤ 6 → R (vT deckT ⟨⟨v', rs⟩⟩) G (osl 34 ruleT v' rs :: srcP b cv p' :: L)) : CallT Tryz.prog 105 #[.pointer (some ⟨b, 0, none⟩), v] G (srcP b cv p :: L) R := by
  refine CallT.enter (args := _) Tryz.func105 rfl rfl (by kernel_rfl) rfl ?_
  refine WP.seq ?_
  refine WP.region ?_
  refine RG.ot rfl (OT.alloc rfl Zr54 fun b4 => ?_)
  refine RG.nil ?_
  refine WP.seq ?_
  refine WP.region ?_
  refine RG.pv rfl (PV.build (vs := []) (out := [_]) rfl Zr54 Pl54 trivial rfl) ?_
  refine RG.ot rfl (OT.alloc rfl Zr54 fun b5 => ?_)
  refine RG.ot rfl (OT.storeW (vs := [_]) rfl Sz54 rfl rfl (Cl.c rfl) rfl rfl (OneC.c rfl) ?_)
  refine RG.nil ?_
  refine WP.seq ?_
  refine WP.seq ?_
  refine WP.region ?_
  refine RG.pv rfl (PV.move rfl rfl) ?_
  refine RG.callF (vs := [_, _]) rfl rfl En66 rfl (CallT.exB (b := b) (nextP_s hcode (by assumption) (by omega) (fun w12 pw12 ew12 ow12 hw12 => ?_)))
  refine RG.pv rfl (PV.add rfl rfl rfl (by omega)) ?_
  refine RG.pv rfl (PV.mvI (.inr rfl) rfl) ?_
  refine RG.nil ?_
  refine WP.block ?_
  refine WP.cv ((Cv.p (C := blk b5 54 [.slice none 0 0] :: blk b4 54 [.slice none 0 0] :: srcP b cv pw12 :: L)).trans (Cv.nilS (e := 34) (F := ruleT))) ?_
  refine WP.loop4 [0, 1, 4, 5] (fun (j : Int) (rs : List Rule) (q : Value) (pj : Pl) => (0 ≤ j ∧ j ≤ 4) ∧ (rs.length : Int) + j ≤ 4 ∧ OkP pj ∧ dRls bs (er ys) j.toNat rs pj = dRls bs (er ys) (w12 + 1).toNat [] pw12) (fun (j : Int) (rs : List Rule) (q : Value) (pj : Pl) => [(6, vi j)]) (fun (j : Int) (rs : List Rule) (q : Value) (pj : Pl) => osl 34 ruleT q rs :: blk b5 54 [q] :: blk b4 54 [.slice none 0 0] :: srcP b cv pj :: L) (fun (j : Int) (rs : List Rule) (q : Value) (pj : Pl) => j.toNat) (w12 + 1) [] (.slice none 0 0) pw12 ⟨by omega, by simp; omega, by assumption, rfl⟩ ⟨rfl, trivial⟩ Cv.p ?_
  rintro j rs q pj τ ⟨hj, hrl, hpj, hdj⟩
  refine WP.seq ?_
  refine WP.seq ?_
  refine WP.region ?_
  refine RG.pv rfl (PV.mvI (.inl rfl) rfl) ?_
  refine RG.pv rfl (PV.gtr rfl rfl rfl) ?_
  refine RG.nil ?_
  refine WP.cond rfl (fun h2 => ?_) (fun h2 => ?_)
  · have h2 := of_decide_eq_true h2
    refine WP.skip ?_
    refine WP.seq ?_
    refine WP.block ?_
    refine WP.seq ?_
    refine WP.region ?_
    refine RG.pv rfl (PV.move rfl rfl) ?_
    refine RG.callF (vs := [_, _]) rfl rfl En66 rfl (CallT.exB (b := b) (nextP_s hcode (by assumption) (by omega) (fun w19 pw19 ew19 ow19 hw19 => ?_)))
    refine RG.pv rfl (PV.mvI (.inr rfl) rfl) ?_
    refine RG.nil ?_
    refine WP.cut2 [0, 1, 4, 5, 6] (fun (n2 : Int) (p2 : Pl) => (0 ≤ n2 ∧ n2 < 8) ∧ OkP p2 ∧ dLay bs (er ys) 8 w19 pw19 = (n2, p2)) (fun (n2 : Int) (p2 : Pl) => [(7, vi n2)]) (fun (n2 : Int) (p2 : Pl) => osl 34 ruleT q rs :: blk b5 54 [q] :: blk b4 54 [.slice none 0 0] :: srcP b cv p2 :: L) ?_ ?_
    refine WP.seq ?_
    refine WP.region ?_
    refine RG.pv rfl (PV.mvI (.inr rfl) rfl) ?_
    refine RG.nil ?_
    refine WP.block ?_
    refine WP.loop3 [0, 1, 4, 5, 6] (fun (m n : Int) (pm : Pl) => (0 ≤ m ∧ m ≤ 8) ∧ (0 ≤ n ∧ n < 8) ∧ OkP pm ∧ dLay bs (er ys) (8 - m).toNat n pm = dLay bs (er ys) 8 w19 pw19) (fun (m n : Int) (pm : Pl) => [(7, vi n), (8, vi m)]) (fun (m n : Int) (pm : Pl) => osl 34 ruleT q rs :: blk b5 54 [q] :: blk b4 54 [.slice none 0 0] :: srcP b cv pm :: L) (fun (m n : Int) (pm : Pl) => (8 - m).toNat) 0 w19 pw19 ⟨by omega, by omega, by assumption, rfl⟩ ⟨rfl, rfl, trivial⟩ Cv.p ?_
    rintro m n pm τ2 ⟨hm, hn, hpm, hdm⟩
    refine WP.seq ?_
    refine WP.seq ?_
    refine WP.region ?_
    refine RG.pv rfl (PV.mvI (.inl rfl) rfl) ?_
    refine RG.pv rfl (PV.lss rfl rfl rfl) ?_
    refine RG.pv rfl (PV.mvB (.inl rfl) rfl) ?_
    refine RG.gs rfl rfl rfl (fun hp => (PV.move (v := v) rfl rfl)) ?_
    refine RG.gs rfl rfl rfl (fun hp => (PV.len (v := v) rfl Tryz.underlying32 (gs_t hp) (SlF.r h1))) ?_
    refine RG.gs rfl rfl rfl (fun hp => (PV.eql rfl (gs_t hp) rfl)) ?_
    refine RG.pv rfl (PV.pickA rfl rfl (fun hq => gs_t (geqT hq)) rfl) ?_
    refine RG.pv rfl (PV.mvB (.inl rfl) rfl) ?_
    refine RG.gs rfl rfl rfl (fun hp => (PV.move (v := v) rfl rfl)) ?_
    refine RG.gs rfl rfl rfl (fun hp => (PV.mvI (.inl rfl) rfl)) ?_
    refine RG.gs rfl rfl rfl (fun hp => (PV.idxS (j := n.toNat) (v := v) rfl Is32 (gs_t hp) (SlF.r h1) (gs_t hp) (by first | omega | (simp at hp; omega)) (by first | omega | (simp at hp; omega)))) ?_
    refine RG.gs rfl rfl rfl (fun hp => (PV.loadE1 rfl Sc28 (gs_t hp) rfl (El.r h1 (getG (by first | omega | (simp at hp; omega)))) rfl)) ?_
    refine RG.gs rfl rfl rfl (fun hp => (PV.len rfl Tryz.underlying28 (gs_t hp) (SlF.r (hd n.toNat (by omega))))) ?_
    refine RG.gs rfl rfl rfl (fun hp => (PV.eql rfl (gs_t hp) rfl)) ?_
    refine RG.pv rfl (PV.pickA rfl rfl (fun hq => gs_t (geqT hq)) rfl) ?_
    refine RG.pv rfl (PV.mvB (.inl rfl) rfl) ?_
    refine RG.spl (t := 35) rfl (fun g1 => ?_) (fun g1 => ?_)
    · have g2 : m < 8 ∧ (gd (er ys) n.toNat).length = 0 := by
        rw [er_gd]
        by_cases c : m < 8
        · refine ⟨c, ?_⟩
          simp [c, hyl] at g1
          rw [g1]; rfl
        · simp [c] at g1
      have hst : dLay bs (er ys) (8 - m).toNat n pm = if (nx bs pm 6).1 = 0 then (n, (nx bs pm 6).2) else dLay bs (er ys) (8 - (m + 1)).toNat ((n + 1) % 8) (nx bs pm 6).2 := by
        rw [show (8 - m).toNat = (8 - (m + 1)).toNat + 1 by omega, dLay, if_pos g2.2]
      rw [hst] at hdm
      refine RG.take rfl rfl rfl g1 ?_
      refine RG.pv rfl (PV.move rfl rfl) ?_
      refine RG.take rfl rfl rfl g1 ?_
      refine RG.callF (vs := [_, _]) rfl rfl En66 rfl (CallT.exB (b := b) (nextP_s hcode (by assumption) (by omega) (fun w37 pw37 ew37 ow37 hw37 => ?_)))
      refine RG.take rfl rfl rfl g1 ?_
      refine RG.pv rfl (PV.neq rfl rfl rfl) ?_
      refine RG.pv rfl (PV.pickT rfl rfl g1 rfl) ?_
      refine RG.nil ?_
      refine WP.cond rfl (fun h5 => ?_) (fun h5 => ?_)
      · rw [ew37, if_neg (by simpa using h5)] at hdm
        refine WP.skip ?_
        refine WP.seq ?_
        refine WP.block ?_
        refine WP.region ?_
        refine RG.pv rfl (PV.mvI (.inl rfl) rfl) ?_
        refine RG.pv rfl (PV.add rfl rfl rfl (by omega)) ?_
        refine RG.pv rfl (PV.rem rfl rfl rfl (by omega) (by omega) (by omega)) ?_
        refine RG.pv rfl (PV.mvI (.inr rfl) rfl) ?_
        refine RG.nil ?_
        refine WP.region ?_
        refine RG.pv rfl (PV.mvI (.inl rfl) rfl) ?_
        refine RG.pv rfl (PV.add rfl rfl rfl (by omega)) ?_
        refine RG.pv rfl (PV.mvI (.inr rfl) rfl) ?_
        refine RG.nil ?_
        exact ⟨rfl, m + 1, _, pw37, ⟨by omega, by omega, by assumption, hdm⟩, ⟨rfl, rfl, trivial⟩, ⟨rfl, rfl, rfl, rfl, rfl, trivial⟩, Cv.p, by omega⟩
      · rw [ew37, if_pos (by simpa using h5)] at hdm
        refine WP.exit ?_
        exact ⟨rfl, n, pw37, ⟨hn, by assumption, hdm.symm⟩, ⟨rfl, trivial⟩, ⟨rfl, rfl, rfl, rfl, rfl, trivial⟩, Cv.p⟩
    · have g2 : dLay bs (er ys) (8 - m).toNat n pm = (n, pm) := by
        by_cases c : m < 8
        · rw [show (8 - m).toNat = (8 - (m + 1)).toNat + 1 by omega, dLay, if_neg]
          rw [er_gd]; intro hz
          simp [c, hz, hyl] at g1
        · rw [show (8 - m).toNat = 0 by omega, dLay]
      rw [g2] at hdm
      refine RG.skip rfl rfl rfl (gne g1) ?_
      refine RG.skip rfl rfl rfl (gne g1) ?_
      refine RG.skip rfl rfl rfl (gne g1) ?_
      refine RG.pv rfl (PV.pickE rfl rfl g1 rfl) ?_
      refine RG.nil ?_
      refine WP.cond rfl (fun h5 => ?_) (fun h5 => ?_)
      · cases h5
      · refine WP.exit ?_
        exact ⟨rfl, n, pm, ⟨hn, hpm, hdm.symm⟩, ⟨rfl, trivial⟩, ⟨rfl, rfl, rfl, rfl, rfl, trivial⟩, Cv.p⟩
    rintro n2 p2 τ1 ⟨hn2, hp2, hd2⟩
    refine WP.seq ?_
    refine WP.region ?_
    refine RG.pv rfl (PV.move rfl rfl) ?_
    refine RG.callF (vs := [_, _]) rfl rfl En66 rfl (CallT.exB (b := b) (nextP_s hcode (by assumption) (by omega) (fun w46 pw46 ew46 ow46 hw46 => ?_)))
    refine RG.pv rfl (PV.mvI (.inl rfl) rfl) ?_
    refine RG.pv rfl (PV.move rfl rfl) ?_
    refine RG.callF (vs := [_, _]) rfl rfl En66 rfl (CallT.exB (b := b) (nextP_s hcode (by assumption) (by omega) (fun w49 pw49 ew49 ow49 hw49 => ?_)))
    refine RG.pv rfl (PV.add rfl rfl rfl (by omega)) ?_
    refine RG.pv rfl (PV.build (vs := [(0, [vi _]), (1, [vi _]), (3, [vi _])]) (out := [_, _, _, _, _]) rfl Zr34 Pl34 ⟨rfl, (Cl.c rfl), ⟨rfl, (Cl.c rfl), ⟨rfl, (Cl.c rfl), trivial⟩⟩⟩ rfl) ?_
    refine RG.ot rfl (OT.alloc rfl Zr34 fun b9 => ?_)
    refine RG.ot rfl (OT.storeW (vs := [vi _, vi _, vi _, vi _, vi _]) rfl Sz34 rfl rfl (Cl.c rfl) rfl rfl (OneC.c rfl) ?_)
    refine RG.nil ?_
    refine WP.cut2 [0, 1, 4, 5, 6, 9] (fun (r2 : Rule) (p3 : Pl) => OkP p3 ∧ dOth bs w46 n2 w49 pw49 = (r2, p3)) (fun (r2 : Rule) (p3 : Pl) => []) (fun (r2 : Rule) (p3 : Pl) => blk b9 34 (ruleT.enc r2) :: osl 34 ruleT q rs :: blk b5 54 [q] :: blk b4 54 [.slice none 0 0] :: srcP b cv p3 :: L) ?_ ?_
    refine WP.seq ?_
    refine WP.region ?_
    refine RG.pv rfl (PV.loadW rfl Ag34 rfl rfl) ?_
    refine RG.callF (vs := [_]) rfl rfl En163 rfl (l20Paired_s (r := ⟨w46, n2, 0, w49 + 1, 0⟩) ?_)
    refine RG.nil ?_
    · refine WP.cond rfl (fun h6 => ?_) (fun h6 => ?_)
      · refine WP.region ?_
        refine RG.pv rfl (PV.mvI (.inl rfl) rfl) ?_
        refine RG.pv rfl (PV.add rfl rfl rfl (by omega)) ?_
        refine RG.pv rfl (PV.move rfl rfl) ?_
        refine RG.callF (vs := [_, _]) rfl rfl En66 rfl (CallT.exB (b := b) (nextP_s hcode (by assumption) (by omega) (fun w57 pw57 ew57 ow57 hw57 => ?_)))
        refine RG.pv rfl (PV.add rfl rfl rfl (by omega)) ?_
        refine RG.pv rfl (PV.rem rfl rfl rfl (by omega) (by omega) (by omega)) ?_
        refine RG.pv rfl (PV.field rfl Fo34_2 rfl) ?_
        refine RG.ot rfl (OT.storeB (vs := [vi _]) (cs' := [_, _, _, _, _]) rfl Sz2 rfl rfl (Cl.c rfl) rfl (OneC.c rfl) rfl rfl ?_)
        refine RG.nil ?_
        exact ⟨rfl, ⟨w46, n2, (n2 + 1 + w57) % 8, w49 + 1, 0⟩, pw57, ⟨by assumption, by rw [dOth, if_pos h6, ew57]⟩, trivial, ⟨rfl, rfl, rfl, rfl, rfl, rfl, trivial⟩, Cv.p⟩
      · refine WP.skip ?_
        exact ⟨rfl, ⟨w46, n2, 0, w49 + 1, 0⟩, pw49, ⟨by assumption, by rw [dOth, if_neg (by rw [h6]; decide)]⟩, trivial, ⟨rfl, rfl, rfl, rfl, rfl, rfl, trivial⟩, Cv.p⟩
    rintro r2 p3 τ3 ⟨hp3, hd3⟩
    refine WP.cut2 [0, 1, 4, 5, 6, 9] (fun (r3 : Rule) (p4 : Pl) => OkP p4 ∧ dAr bs r2 p3 = (r3, p4)) (fun (r3 : Rule) (p4 : Pl) => []) (fun (r3 : Rule) (p4 : Pl) => blk b9 34 (ruleT.enc r3) :: osl 34 ruleT q rs :: blk b5 54 [q] :: blk b4 54 [.slice none 0 0] :: srcP b cv p4 :: L) ?_ ?_
    refine WP.seq ?_
    refine WP.region ?_
    refine RG.pv rfl (PV.field rfl Fo34_0 rfl) ?_
    refine RG.pv rfl (PV.load1 rfl Sc2 rfl (Rd.blk rfl)) ?_
    refine RG.pv rfl (PV.eql rfl rfl rfl) ?_
    refine RG.nil ?_
    · refine WP.cond rfl (fun h7 => ?_) (fun h7 => ?_)
      · have h7 := of_decide_eq_true h7
        refine WP.region ?_
        refine RG.pv rfl (PV.move rfl rfl) ?_
        refine RG.callF (vs := [_, _]) rfl rfl En66 rfl (CallT.exB (b := b) (nextP_s hcode (by assumption) (by omega) (fun w65 pw65 ew65 ow65 hw65 => ?_)))
        refine RG.pv rfl (PV.add rfl rfl rfl (by omega)) ?_
        refine RG.pv rfl (PV.field rfl Fo34_3 rfl) ?_
        refine RG.ot rfl (OT.storeB (vs := [vi _]) (cs' := [_, _, _, _, _]) rfl Sz2 rfl rfl (Cl.c rfl) rfl (OneC.c rfl) rfl rfl ?_)
        refine RG.nil ?_
        exact ⟨rfl, ⟨r2.kind, r2.layer, r2.other, w65 + 1, r2.percent⟩, pw65, ⟨by assumption, by rw [dAr, if_pos h7, ew65]⟩, trivial, ⟨rfl, rfl, rfl, rfl, rfl, rfl, trivial⟩, Cv.p⟩
      · have h7 := of_decide_eq_false h7
        refine WP.skip ?_
        exact ⟨rfl, r2, p3, ⟨by assumption, by rw [dAr, if_neg h7]⟩, trivial, ⟨rfl, rfl, rfl, rfl, rfl, rfl, trivial⟩, Cv.p⟩
    rintro r3 p4 τ4 ⟨hp4, hd4⟩
    refine WP.seq ?_
    refine WP.region ?_
    refine RG.pv rfl (PV.field rfl Fo54_0 rfl) ?_
    refine RG.pv rfl (PV.load1 rfl Sc52 rfl (Rd.blk rfl)) ?_
    refine RG.pv rfl (PV.loadW rfl Ag34 rfl rfl) ?_
    refine RG.callF (vs := [_, _]) rfl rfl En164 rfl (l16Has_s (v := q) (q := r3) Rs.o ?_)
    refine RG.pv rfl (PV.not rfl rfl) ?_
    refine RG.nil ?_
    have hru : dRule bs (er ys) pj = (r3, p4) := by simp only [dRule, ew19, hd2, ew46, ew49, hd3, hd4]
    have hst : dRls bs (er ys) j.toNat rs pj = dRls bs (er ys) (j - 1).toNat (if hasR rs r3 = true then rs else rs ++ [r3]) p4 := by
      rw [show j.toNat = (j - 1).toNat + 1 by omega, dRls, hru]
    rw [hst] at hdj
    refine WP.cond rfl (fun h8 => ?_) (fun h8 => ?_)
    · rw [if_neg (by simpa using h8)] at hdj
      refine WP.region ?_
      refine RG.pv rfl (PV.field rfl Fo54_0 rfl) ?_
      refine RG.pv rfl (PV.load1 rfl Sc52 rfl (Rd.blk rfl)) ?_
      refine RG.pv rfl (PV.loadW rfl Ag34 rfl rfl) ?_
      refine RG.ot rfl (OT.bslice (F := ruleT) (els := [⟨_, _, _, _, _⟩]) rfl El52 rfl (by decide) rfl (by decide) ⟨rfl, (Cl.c rfl), trivial⟩ fun v76 => ?_)
      refine RG.ot rfl (OT.append (v := q) (u := v76) (F := ruleT) rfl El52 rfl (by decide) rfl rfl Rs.o (OneL.c (fun _ => rfl)) rfl (by first | omega | (simp <;> omega)) fun v77 => ?_)
      refine RG.pv rfl (PV.field rfl Fo54_0 rfl) ?_
      refine RG.ot rfl (OT.storeB (v := v77) (vs := [_]) (cs' := [_]) rfl Sz52 rfl rfl (Cl.s (v := v77) SlF.o) rfl (OneC.sl SlF.o OneC.nil) rfl rfl ?_)
      refine RG.nil ?_
      refine WP.region ?_
      refine RG.pv rfl (PV.mvI (.inl rfl) rfl) ?_
      refine RG.pv rfl (PV.sub rfl rfl rfl (by omega)) ?_
      refine RG.pv rfl (PV.mvI (.inr rfl) rfl) ?_
      refine RG.nil ?_
      exact ⟨rfl, j - 1, (rs ++ [r3]), v77, p4, ⟨by omega, by simp; omega, by assumption, hdj⟩, ⟨rfl, trivial⟩, ⟨rfl, rfl, rfl, rfl, trivial⟩, Cv.p, by omega⟩
    · rw [if_pos (by simpa using h8)] at hdj
      refine WP.skip ?_
      refine WP.region ?_
      refine RG.pv rfl (PV.mvI (.inl rfl) rfl) ?_
      refine RG.pv rfl (PV.sub rfl rfl rfl (by omega)) ?_
      refine RG.pv rfl (PV.mvI (.inr rfl) rfl) ?_
      refine RG.nil ?_
      exact ⟨rfl, j - 1, rs, q, p4, ⟨by omega, by omega, by assumption, hdj⟩, ⟨rfl, trivial⟩, ⟨rfl, rfl, rfl, rfl, trivial⟩, Cv.p, by omega⟩
  · have h2 := of_decide_eq_false h2
    rw [show j.toNat = 0 by omega, dRls] at hdj
    refine WP.exit ?_
    refine WP.seq ?_
    refine WP.seq ?_
    refine WP.region ?_
    refine RG.pv rfl (PV.move rfl rfl) ?_
    refine RG.callF (vs := [_, _]) rfl rfl En66 rfl (CallT.exB (b := b) (nextP_s hcode (by assumption) (by omega) (fun w80 pw80 ew80 ow80 hw80 => ?_)))
    refine RG.pv rfl (PV.eql rfl rfl rfl) ?_
    refine RG.nil ?_
    refine WP.cond rfl (fun h3 => ?_) (fun h3 => ?_)
    · have h3 := of_decide_eq_true h3
      refine WP.region ?_
      refine RG.pv rfl (PV.field rfl Fo54_0 rfl) ?_
      refine RG.pv rfl (PV.load1 rfl Sc52 rfl (Rd.blk rfl)) ?_
      refine RG.pv rfl (PV.build (vs := [(0, [vi _]), (1, [vi _]), (3, [vi _]), (4, [vi _])]) (out := [_, _, _, _, _]) rfl Zr34 Pl34 ⟨rfl, (Cl.c rfl), ⟨rfl, (Cl.c rfl), ⟨rfl, (Cl.c rfl), ⟨rfl, (Cl.c rfl), trivial⟩⟩⟩⟩ rfl) ?_
      refine RG.ot rfl (OT.bslice (F := ruleT) (els := [⟨_, _, _, _, _⟩]) rfl El52 rfl (by decide) rfl (by decide) ⟨rfl, (Cl.c rfl), trivial⟩ fun v85 => ?_)
      refine RG.ot rfl (OT.append (v := q) (u := v85) (F := ruleT) rfl El52 rfl (by decide) rfl rfl Rs.o (OneL.c (fun _ => rfl)) rfl (by first | omega | (simp <;> omega)) fun v86 => ?_)
      refine RG.pv rfl (PV.field rfl Fo54_0 rfl) ?_
      refine RG.ot rfl (OT.storeB (v := v86) (vs := [_]) (cs' := [_]) rfl Sz52 rfl rfl (Cl.s (v := v86) SlF.o) rfl (OneC.sl SlF.o OneC.nil) rfl rfl ?_)
      refine RG.nil ?_
      refine WP.seq ?_
      refine WP.region ?_
      refine RG.pv rfl (PV.loadW rfl Ag54 rfl rfl) ?_
      refine RG.ot rfl (OT.storeW (vs := [_]) rfl Sz54 rfl rfl (Cl.c rfl) rfl rfl (OneC.sl (SlF.o (v := v86)) OneC.nil) ?_)
      refine RG.nil ?_
      refine WP.ret ?_
      exact ⟨_, _, ResV.one rfl (RV1.cell rfl Ag54 rfl), Cv.p, k v86 (rs ++ [⟨5, 3, 0, 40, 10⟩]) pw80 (by simp only [dDeck, ew12, ← hdj, ew80, h3, if_true]) (by assumption) (by simp; omega)⟩
    · have h3 := of_decide_eq_false h3
      refine WP.skip ?_
      refine WP.seq ?_
      refine WP.region ?_
      refine RG.pv rfl (PV.loadW rfl Ag54 rfl rfl) ?_
      refine RG.ot rfl (OT.storeW (vs := [_]) rfl Sz54 rfl rfl (Cl.c rfl) rfl rfl (OneC.sl (SlF.o (v := q)) OneC.nil) ?_)
      refine RG.nil ?_
      refine WP.ret ?_
      exact ⟨_, _, ResV.one rfl (RV1.cell rfl Ag54 rfl), Cv.p, k q rs pw80 (by simp only [dDeck, ew12, ← hdj, ew80, h3, if_false]) (by assumption) (by omega)⟩
end Go.Proofs.YtpjajhjcbcfplaaGreat
namespace Go.Proofs.YtpjajhjcbcfplaaGreat
set_option linter.unusedVariables false
set_option linter.unusedSimpArgs false
open Go
theorem WP.loop5 {P : Program} {n : Nat} {Q : Post} {σ : Nat → Value} {G : Gh} {L : List Ch} {c : Code} (keep : List Nat) {A B D E F : Type} (J : A → B → D → E → F → Prop) (S : A → B → D → E → F → List (Nat × Value)) (C : A → B → D → E → F → List Ch) (μ : A → B → D → E → F → Nat) (a0 : A) (b0 : B) (d0 : D) (e0 : E) (f0 : F) (j0 : J a0 b0 d0 e0 f0) (h0 : HasV σ (S a0 b0 d0 e0 f0)) (p0 : Cv L (C a0 b0 d0 e0 f0))
    (round : ∀ a b d e f τ, J a b d e f → WP P n c (thenP (fun σ' G' L' => G' = G ∧ ∃ a' b' d' e' f', J a' b' d' e' f' ∧ HasV σ' (S a' b' d' e' f') ∧ Keeps σ' σ keep ∧ Cv L' (C a' b' d' e' f') ∧ μ a' b' d' e' f' < μ a b d e f) Q) (upds (updk τ σ keep) (S a b d e f)) G (C a b d e f)) : WP P n (.loop c) Q σ G L :=
  WP.loop0 keep (A := A × B × D × E × F) (fun x => J x.1 x.2.1 x.2.2.1 x.2.2.2.1 x.2.2.2.2) (fun x => S x.1 x.2.1 x.2.2.1 x.2.2.2.1 x.2.2.2.2) (fun x => C x.1 x.2.1 x.2.2.1 x.2.2.2.1 x.2.2.2.2) (fun x => μ x.1 x.2.1 x.2.2.1 x.2.2.2.1 x.2.2.2.2) (a0, b0, d0, e0, f0) j0 h0 p0 fun x τ j =>
    WP.mono (round x.1 x.2.1 x.2.2.1 x.2.2.2.1 x.2.2.2.2 τ j) fun e σ G L hq => by
      cases e with
      | normal => obtain ⟨e, a', b', d', e', f', h⟩ := hq; exact ⟨e, (a', b', d', e', f'), h⟩
      | _ => exact hq
end Go.Proofs.YtpjajhjcbcfplaaGreat
namespace Go.Proofs.YtpjajhjcbcfplaaGreat
set_option linter.unusedVariables false
set_option linter.unusedSimpArgs false
open Go
set_option maxRecDepth 20000
set_option linter.unusedSimpArgs false
set_option linter.unusedVariables false
set_option maxHeartbeats 2000000
variable {G : Gh} {L : List Ch} {R : Value → Gh → List Ch → Prop}
theorem hasI_at {S : List Bool} {q : Int × Int} {dx dy : Int} : hasI S (q.1 - 40 + dx) (q.2 - 40 + dy) = (decide (0 ≤ q.1 + dx) && decide (q.1 + dx < 80) && (decide (0 ≤ q.2 + dy) && decide (q.2 + dy < 80)) && gd S ((q.2 + dy) * 80 + (q.1 + dx)).toNat) := by
  rw [hasI, within, within, show (q.2 - 40 + dy + 40) * 80 + (q.1 - 40 + dx) + 40 = (q.2 + dy) * 80 + (q.1 + dx) by omega]
  congr 1
  rw [Bool.eq_iff_iff]; simp; omega
theorem flood7_s {v : Value} {S : List Bool} {x y : Int} (h1 : Rs G L boolT v S) (hS : S.length = 6400) (hx : 0 ≤ x ∧ x < 80) (hy : 0 ≤ y ∧ y < 80) (hon : gb S y.toNat x.toNat = true)
    (k : ∀ v', R v' G (osl 4 boolT v' (compB S (y.toNat, x.toNat)) :: L)) : CallT Tryz.prog 219 #[v, vi (x - 40), vi (y - 40), .bool false] G L R := by
  have hst := FI.start (S := S) hx hy
  have hseed : On S (y.toNat, x.toNat) := ⟨by simp only; omega, by simp only; omega, hon⟩
  have hrl : (List.replicate S.length false).length = 6400 := by simp [hS]
  refine CallT.enter (args := _) Tryz.func219 rfl rfl (by kernel_rfl) rfl ?_
  refine WP.seq ?_
  refine WP.region ?_
  refine RG.pv rfl (PV.asg rfl rfl) ?_
  refine RG.nil ?_
  refine WP.seq ?_
  refine WP.region ?_
  refine RG.pv rfl (PV.move (v := v) rfl rfl) ?_
  refine RG.pv rfl (PV.len (v := v) rfl Tryz.underlying111 rfl (SlF.r h1)) ?_
  refine RG.ot rfl (OT.make (F := boolT) (a0 := false) rfl El111 rfl (by decide) rfl rfl (by omega) (by omega) fun v17 => ?_)
  refine RG.pv rfl (PV.asg (v := v17) rfl rfl) ?_
  refine RG.nil ?_
  refine WP.seq ?_
  refine WP.region ?_
  refine RG.pv rfl (PV.mvI (.inl rfl) rfl) ?_
  refine RG.pv rfl (PV.mvI (.inl rfl) rfl) ?_
  refine RG.pv rfl (PV.build (vs := [(0, [vi _]), (1, [vi _])]) (out := [_, _]) rfl Zr168 Pl168 ⟨rfl, (Cl.c rfl), ⟨rfl, (Cl.c rfl), trivial⟩⟩ rfl) ?_
  refine RG.ot rfl (OT.bslice (F := ptT) (els := [⟨_, _⟩]) rfl El165 rfl (by decide) rfl (by decide) ⟨rfl, (Cl.c rfl), trivial⟩ fun v21 => ?_)
  refine RG.pv rfl (PV.asg (v := v21) rfl rfl) ?_
  refine RG.nil ?_
  refine WP.seq ?_
  refine WP.region ?_
  refine RG.pv rfl (PV.move (v := v17) rfl rfl) ?_
  refine RG.pv rfl (PV.mvI (.inl rfl) rfl) ?_
  refine RG.pv rfl (PV.mvI (.inl rfl) rfl) ?_
  refine RG.callF (vs := [_, _]) rfl rfl En146 rfl (l03At_s (by first | omega | (simp [within, hasI] at hp; omega)) ?_)
  refine RG.pv rfl (PV.idxS (j := y.toNat * 80 + x.toNat) (v := v17) rfl Is111 rfl SlF.o rfl (by omega) (by omega)) ?_
  refine RG.ot rfl (OT.storeE (F := boolT) rfl Sz4 rfl rfl rfl (Cl.c rfl) (OneC.c rfl) (by omega) ?_)
  refine RG.nil ?_
  refine WP.seq ?_
  refine WP.seq ?_
  refine WP.region ?_
  refine RG.pv rfl (PV.mvI (.inr rfl) rfl) ?_
  refine RG.nil ?_
  refine WP.block ?_
  refine WP.cv ((Cv.p (C := osl 4 boolT v17 ((List.replicate S.length false).set (y.toNat * 80 + x.toNat) true) :: osl 168 ptT v21 [⟨x - 40, y - 40⟩] :: L)).trans (Cv.cast (L' := osl 4 boolT v17 ((List.replicate 6400 false).set (y.toNat * 80 + x.toNat) true) :: osl 168 ptT v21 ([(x, y)].map ptOf) :: L) (by rw [hS]; rfl))) ?_
  refine WP.loop4 [0, 3, 9] (fun (i : Nat) (Q : List (Int × Int)) (O : List Bool) (qv : Value) => i ≤ Q.length ∧ FI S (y.toNat, x.toNat) O Q ∧ Done S O Q i ∧ On O (y.toNat, x.toNat)) (fun (i : Nat) (Q : List (Int × Int)) (O : List Bool) (qv : Value) => [(11, vi i), (10, qv)]) (fun (i : Nat) (Q : List (Int × Int)) (O : List Bool) (qv : Value) => osl 4 boolT v17 O :: osl 168 ptT qv (Q.map ptOf) :: L) (fun (i : Nat) (Q : List (Int × Int)) (O : List Bool) (qv : Value) => 6401 - i) 0 [(x, y)] ((List.replicate 6400 false).set (y.toNat * 80 + x.toNat) true) v21 ⟨by simp, hst, fun m hm => by omega, by have := hst.on 0 (by simp); simpa [gd, qc] using this⟩ ⟨rfl, rfl, trivial⟩ Cv.p ?_
  rintro i Q O qv τ ⟨hi, hF, hD, h0⟩
  refine WP.seq ?_
  refine WP.seq ?_
  refine WP.region ?_
  refine RG.pv rfl (PV.mvI (.inl rfl) rfl) ?_
  refine RG.pv rfl (PV.move (v := qv) rfl rfl) ?_
  refine RG.pv rfl (PV.len (v := qv) rfl Tryz.underlying165 rfl SlF.o) ?_
  refine RG.pv rfl (PV.lss rfl rfl rfl) ?_
  refine RG.nil ?_
  have hml : (Q.map ptOf).length = Q.length := by simp
  refine WP.cond rfl (fun h2 => ?_) (fun h2 => ?_)
  · have h2 := of_decide_eq_true h2
    have hQ := hF.len_le
    have hb := hF.bd i (by omega)
    refine WP.skip ?_
    refine WP.seq ?_
    refine WP.block ?_
    refine WP.seq ?_
    refine WP.region ?_
    refine RG.pv rfl (PV.mvI (.inr rfl) rfl) ?_
    refine RG.nil ?_
    refine WP.block ?_
    refine WP.loop4 [0, 3, 9, 11] (fun (dy : Int) (Q1 : List (Int × Int)) (O1 : List Bool) (qv1 : Value) => (-1 ≤ dy ∧ dy ≤ 2) ∧ FI S (y.toNat, x.toNat) O1 Q1 ∧ Done S O1 Q1 i ∧ On O1 (y.toNat, x.toNat) ∧ i < Q1.length ∧ gd Q1 i = gd Q i ∧ Near S O1 (qc (gd Q i)) dy (-1)) (fun (dy : Int) (Q1 : List (Int × Int)) (O1 : List Bool) (qv1 : Value) => [(12, vi dy), (10, qv1)]) (fun (dy : Int) (Q1 : List (Int × Int)) (O1 : List Bool) (qv1 : Value) => osl 4 boolT v17 O1 :: osl 168 ptT qv1 (Q1.map ptOf) :: L) (fun (dy : Int) (Q1 : List (Int × Int)) (O1 : List Bool) (qv1 : Value) => (2 - dy).toNat) (-1) Q O qv ⟨by omega, hF, hD, h0, by omega, rfl, Near.zero _ _ _⟩ ⟨rfl, rfl, trivial⟩ Cv.p ?_
    rintro dy Q1 O1 qv1 τ1 ⟨⟨hy1, hy2⟩, hF1, hD1, h01, hi1, hq1, hN1⟩
    refine WP.seq ?_
    refine WP.seq ?_
    refine WP.region ?_
    refine RG.pv rfl (PV.mvI (.inl rfl) rfl) ?_
    refine RG.pv rfl (PV.leq rfl rfl rfl) ?_
    refine RG.nil ?_
    refine WP.cond rfl (fun h3 => ?_) (fun h3 => ?_)
    · have h3 := of_decide_eq_true h3
      refine WP.skip ?_
      refine WP.seq ?_
      refine WP.block ?_
      refine WP.seq ?_
      refine WP.region ?_
      refine RG.pv rfl (PV.mvI (.inr rfl) rfl) ?_
      refine RG.nil ?_
      refine WP.block ?_
      refine WP.loop4 [0, 3, 9, 11, 12] (fun (dx : Int) (Q2 : List (Int × Int)) (O2 : List Bool) (qv2 : Value) => (-1 ≤ dx ∧ dx ≤ 2) ∧ FI S (y.toNat, x.toNat) O2 Q2 ∧ Done S O2 Q2 i ∧ On O2 (y.toNat, x.toNat) ∧ i < Q2.length ∧ gd Q2 i = gd Q i ∧ Near S O2 (qc (gd Q i)) dy dx) (fun (dx : Int) (Q2 : List (Int × Int)) (O2 : List Bool) (qv2 : Value) => [(13, vi dx), (10, qv2)]) (fun (dx : Int) (Q2 : List (Int × Int)) (O2 : List Bool) (qv2 : Value) => osl 4 boolT v17 O2 :: osl 168 ptT qv2 (Q2.map ptOf) :: L) (fun (dx : Int) (Q2 : List (Int × Int)) (O2 : List Bool) (qv2 : Value) => (2 - dx).toNat) (-1) Q1 O1 qv1 ⟨by omega, hF1, hD1, h01, hi1, hq1, hN1⟩ ⟨rfl, rfl, trivial⟩ Cv.p ?_
      rintro dx Q2 O2 qv2 τ2 ⟨⟨hx1, hx2⟩, hF2, hD2, h02, hi2, hq2, hN2⟩
      refine WP.seq ?_
      refine WP.seq ?_
      refine WP.region ?_
      refine RG.pv rfl (PV.mvI (.inl rfl) rfl) ?_
      refine RG.pv rfl (PV.leq rfl rfl rfl) ?_
      refine RG.nil ?_
      have hml2 : (Q2.map ptOf).length = Q2.length := by simp
      refine WP.cond rfl (fun h4 => ?_) (fun h4 => ?_)
      · have h4 := of_decide_eq_true h4
        have hl2 := hF2.len
        have hQ2 := hF2.len_le
        have hb2 : 0 ≤ (gd Q2 i).1 ∧ (gd Q2 i).1 < 80 ∧ 0 ≤ (gd Q2 i).2 ∧ (gd Q2 i).2 < 80 := by rw [hq2]; exact hb
        have e1 : gd (Q2.map ptOf) i = ⟨(gd Q2 i).1 - 40, (gd Q2 i).2 - 40⟩ := gd_pt hi2
        have ex : (gd (Q2.map ptOf) i).x = (gd Q2 i).1 - 40 := by rw [e1]
        have ey : (gd (Q2.map ptOf) i).y = (gd Q2 i).2 - 40 := by rw [e1]
        refine WP.skip ?_
        refine WP.seq ?_
        refine WP.block ?_
        refine WP.cut1 [0, 3, 9, 10, 11, 12, 13] (fun (b14 : Nat) => True) (fun (b14 : Nat) => [(14, .pointer (some ⟨b14, 0, none⟩))]) (fun (b14 : Nat) => blk b14 168 [vi ((gd Q2 i).1 - 40 + dx), vi ((gd Q2 i).2 - 40 + dy)] :: osl 4 boolT v17 O2 :: osl 168 ptT qv2 (Q2.map ptOf) :: L) ?_ ?_
        refine WP.regionH0 (.q 0 (.q 1 (.q 2 (.q 3 (.q 4 (.q 5 (.q 6 (.q 7 (.q 8 (.q 9 (.q 10 (.q 11 (.q 12 (.q 13 (.q 14 (.l 15 (.l 16 Sch.nil))))))))))))))))) (by kernel_rfl) (by kernel_rfl) (by kernel_rfl) rfl ?_
        refine RH.pv rfl (fun _ _ _ _ h => h) (Gh.le_refl _) PickC.pick rfl (PV.move (v := qv2) rfl rfl) ?_
        refine RH.pv rfl (fun _ _ _ _ h => h) (Gh.le_refl _) PickC.pick rfl (PV.mvI (.inl rfl) rfl) ?_
        refine RH.pv rfl (fun _ _ _ _ h => h) (Gh.le_refl _) PickC.pick rfl (PV.idxS (v := qv2) rfl Is165 rfl SlF.o rfl rfl (by omega)) ?_
        refine RH.pv rfl (fun _ _ _ _ h => h) (Gh.le_refl _) PickC.pick rfl (PV.field rfl Fo168_0 rfl) ?_
        refine RH.pv rfl (fun _ _ _ _ h => h) (Gh.le_refl _) PickC.pick rfl (PV.loadF (v := qv2) (j := 0) rfl Sc2 rfl rfl (El.o (getG (by omega))) rfl) ?_
        refine RH.pv rfl (fun _ _ _ _ h => h) (Gh.le_refl _) PickC.pick rfl (PV.mvI (.inl rfl) rfl) ?_
        refine RH.pv rfl (fun _ _ _ _ h => h) (Gh.le_refl _) PickC.pick rfl (PV.add rfl rfl rfl (by omega)) ?_
        refine RH.pv rfl (fun _ _ _ _ h => h) (Gh.le_refl _) PickC.pick rfl (PV.move (v := qv2) rfl rfl) ?_
        refine RH.pv rfl (fun _ _ _ _ h => h) (Gh.le_refl _) PickC.pick rfl (PV.mvI (.inl rfl) rfl) ?_
        refine RH.pv rfl (fun _ _ _ _ h => h) (Gh.le_refl _) PickC.pick rfl (PV.idxS (v := qv2) rfl Is165 rfl SlF.o rfl rfl (by omega)) ?_
        refine RH.pv rfl (fun _ _ _ _ h => h) (Gh.le_refl _) PickC.pick rfl (PV.field rfl Fo168_1 rfl) ?_
        refine RH.pv rfl (fun _ _ _ _ h => h) (Gh.le_refl _) PickC.pick rfl (PV.loadF rfl Sc2 rfl rfl (El.o (getG (by omega))) rfl) ?_
        refine RH.pv rfl (fun _ _ _ _ h => h) (Gh.le_refl _) PickC.pick rfl (PV.mvI (.inl rfl) rfl) ?_
        refine RH.pv rfl (fun _ _ _ _ h => h) (Gh.le_refl _) PickC.pick rfl (PV.add rfl rfl rfl (by omega)) ?_
        refine RH.pv rfl (fun _ _ _ _ h => h) (Gh.le_refl _) PickC.pick rfl (PV.build (vs := [(0, [vi _]), (1, [vi _])]) (out := [_, _]) rfl Zr168 Pl168 ⟨rfl, (Cl.c rfl), ⟨rfl, (Cl.c rfl), trivial⟩⟩ rfl) ?_
        refine RH.ot rfl rfl (OT.alloc rfl Zr168 fun b14 => ⟨Gh.le_refl _, PickC.pick, ?_⟩)
        refine RH.ot rfl rfl (OT.storeW (vs := [vi _, vi _]) rfl Sz168 rfl rfl (Cl.c rfl) rfl rfl (OneC.c rfl) ⟨Gh.le_refl _, PickC.pick, ?_⟩)
        refine RH.nil ?_
        · exact ⟨rfl, b14, trivial, ⟨rfl, trivial⟩, ⟨rfl, rfl, rfl, rfl, rfl, rfl, rfl, trivial⟩, (Cv.p (C := blk b14 168 [vi ((gd (Q2.map ptOf) i).x + dx), vi ((gd (Q2.map ptOf) i).y + dy)] :: osl 4 boolT v17 O2 :: osl 168 ptT qv2 (Q2.map ptOf) :: L)).trans (Cv.cast (by rw [ex, ey]))⟩
        · have ej : ((gd Q2 i).2 - 40 + dy + 40) * 80 + ((gd Q2 i).1 - 40 + dx) + 40 = ((gd Q2 i).2 + dy) * 80 + ((gd Q2 i).1 + dx) := by omega
          rintro b14 τ3 _
          refine WP.seq ?_
          refine WP.region ?_
          refine RG.pv rfl (PV.mvB (.inl rfl) rfl) ?_
          refine RG.pv rfl (PV.mvB (.inl rfl) rfl) ?_
          refine RG.gs rfl rfl rfl (fun hp => (PV.mvI (.inl rfl) rfl)) ?_
          refine RG.gs rfl rfl rfl (fun hp => (PV.eql rfl (gs_t hp) rfl)) ?_
          refine RG.pv rfl (PV.pickO rfl rfl rfl (fun hq => gs_t (geqF hq))) ?_
          refine RG.pv rfl (PV.mvB (.inl rfl) rfl) ?_
          refine RG.gs rfl rfl rfl (fun hp => (PV.mvI (.inl rfl) rfl)) ?_
          refine RG.gs rfl rfl rfl (fun hp => (PV.eql rfl (gs_t hp) rfl)) ?_
          refine RG.pv rfl (PV.pickO rfl rfl rfl (fun hq => gs_t (geqF hq))) ?_
          refine RG.pv rfl (PV.mvB (.inl rfl) rfl) ?_
          refine RG.gs rfl rfl rfl (fun hp => (PV.move (v := v) rfl rfl)) ?_
          refine RG.gs rfl rfl rfl (fun hp => (PV.field rfl Fo168_0 rfl)) ?_
          refine RG.gs rfl rfl rfl (fun hp => (PV.load1 rfl Sc2 (gs_t hp) (Rd.blk rfl))) ?_
          refine RG.gs rfl rfl rfl (fun hp => (PV.field rfl Fo168_1 rfl)) ?_
          refine RG.gs rfl rfl rfl (fun hp => (PV.load1 rfl Sc2 (gs_t hp) (Rd.blk rfl))) ?_
          refine RG.gsC rfl rfl rfl rfl En185 (fun hp => ⟨_, (acons (gs_t hp) (acons (gs_t hp) (acons (gs_t hp) anil))), l03Has_s (Rs.up h1) hS ⟨rfl, rfl, rfl⟩⟩) ?_
          refine RG.pv rfl (PV.pickA rfl rfl (fun hq => gs_t (geqT hq)) rfl) ?_
          refine RG.pv rfl (PV.mvB (.inl rfl) rfl) ?_
          refine RG.gs rfl rfl rfl (fun hp => (PV.move (v := v17) rfl rfl)) ?_
          refine RG.gs rfl rfl rfl (fun hp => (PV.field rfl Fo168_0 rfl)) ?_
          refine RG.gs rfl rfl rfl (fun hp => (PV.load1 rfl Sc2 (gs_t hp) (Rd.blk rfl))) ?_
          refine RG.gs rfl rfl rfl (fun hp => (PV.field rfl Fo168_1 rfl)) ?_
          refine RG.gs rfl rfl rfl (fun hp => (PV.load1 rfl Sc2 (gs_t hp) (Rd.blk rfl))) ?_
          refine RG.gsC rfl rfl rfl rfl En146 (fun hp => ⟨_, (acons (gs_t hp) (acons (gs_t hp) anil)), l03At_s (by first | omega | (simp [within, hasI] at hp; omega)) ⟨rfl, rfl, rfl⟩⟩) ?_
          refine RG.gs rfl rfl rfl (fun hp => (PV.idxS (j := ((gd Q2 i).2 + dy).toNat * 80 + ((gd Q2 i).1 + dx).toNat) (v := v17) rfl Is111 (gs_t hp) SlF.o (gs_t hp) (by first | omega | (simp [within, hasI] at hp; omega)) (by first | omega | (simp [within, hasI] at hp; omega)))) ?_
          refine RG.gs rfl rfl rfl (fun hp => (PV.loadE1 rfl Sc4 (gs_t hp) rfl (El.o (getG (by first | omega | (simp [within, hasI] at hp; omega)))) rfl)) ?_
          refine RG.gs rfl rfl rfl (fun hp => (PV.not rfl (gs_t hp))) ?_
          refine RG.pv rfl (PV.pickA rfl rfl (fun hq => gs_t (geqT hq)) rfl) ?_
          refine RG.nil ?_
          have hcon : ((((false || decide (dx = 0)) || decide (dy = 0)) && hasI S ((gd Q2 i).1 - 40 + dx) ((gd Q2 i).2 - 40 + dy)) && !gd O2 (((gd Q2 i).2 + dy).toNat * 80 + ((gd Q2 i).1 + dx).toNat)) = true ↔ (dx = 0 ∨ dy = 0) ∧ (0 ≤ (gd Q2 i).1 + dx ∧ 0 ≤ (gd Q2 i).2 + dy ∧ (gd Q2 i).1 + dx < 80 ∧ (gd Q2 i).2 + dy < 80) ∧ gb S ((gd Q2 i).2 + dy).toNat ((gd Q2 i).1 + dx).toNat = true ∧ gb O2 ((gd Q2 i).2 + dy).toNat ((gd Q2 i).1 + dx).toNat = false := by
            rw [hasI_at]
            simp only [Bool.and_eq_true, Bool.or_eq_true, decide_eq_true_eq, Bool.not_eq_true', Bool.false_or, gb]
            constructor
            · rintro ⟨⟨a1, ⟨⟨a2, a3⟩, a4, a5⟩, a6⟩, a7⟩
              rw [show (((gd Q2 i).2 + dy) * 80 + ((gd Q2 i).1 + dx)).toNat = ((gd Q2 i).2 + dy).toNat * 80 + ((gd Q2 i).1 + dx).toNat by omega] at a6
              exact ⟨a1, ⟨a2, a4, a3, a5⟩, a6, a7⟩
            · rintro ⟨a1, ⟨a2, a4, a3, a5⟩, a6, a7⟩
              rw [show (((gd Q2 i).2 + dy) * 80 + ((gd Q2 i).1 + dx)).toNat = ((gd Q2 i).2 + dy).toNat * 80 + ((gd Q2 i).1 + dx).toNat by omega]
              exact ⟨⟨a1, ⟨⟨a2, a3⟩, a4, a5⟩, a6⟩, a7⟩
          refine WP.cond rfl (fun h5 => ?_) (fun h5 => ?_)
          · obtain ⟨a1, ⟨a2, a3, a4, a5⟩, a6, a7⟩ := hcon.1 h5
            refine WP.seq ?_
            refine WP.region ?_
            refine RG.pv rfl (PV.move (v := v17) rfl rfl) ?_
            refine RG.pv rfl (PV.field rfl Fo168_0 rfl) ?_
            refine RG.pv rfl (PV.load1 rfl Sc2 rfl (Rd.blk rfl)) ?_
            refine RG.pv rfl (PV.field rfl Fo168_1 rfl) ?_
            refine RG.pv rfl (PV.load1 rfl Sc2 rfl (Rd.blk rfl)) ?_
            refine RG.callF (vs := [_, _]) rfl rfl En146 rfl (l03At_s (by first | omega | (simp [within, hasI] at hp; omega)) ?_)
            refine RG.pv rfl (PV.idxS (j := ((gd Q2 i).2 + dy).toNat * 80 + ((gd Q2 i).1 + dx).toNat) (v := v17) rfl Is111 rfl SlF.o rfl (by omega) (by omega)) ?_
            refine RG.ot rfl (OT.storeE (F := boolT) rfl Sz4 rfl rfl rfl (Cl.c rfl) (OneC.c rfl) (by omega) ?_)
            refine RG.nil ?_
            refine WP.region ?_
            refine RG.pv rfl (PV.move (v := qv2) rfl rfl) ?_
            refine RG.pv rfl (PV.loadW rfl Ag168 rfl rfl) ?_
            refine RG.ot rfl (OT.bslice (F := ptT) (els := [⟨_, _⟩]) rfl El165 rfl (by decide) rfl (by decide) ⟨rfl, (Cl.c rfl), trivial⟩ fun v93 => ?_)
            refine RG.ot rfl (OT.append (v := qv2) (u := v93) (F := ptT) rfl El165 rfl (by decide) rfl rfl Rs.o (OneL.c (fun _ => rfl)) rfl (by first | omega | (simp <;> omega)) fun v94 => ?_)
            refine RG.pv rfl (PV.asg (v := v94) rfl rfl) ?_
            refine RG.nil ?_
            refine WP.region ?_
            refine RG.pv rfl (PV.mvI (.inl rfl) rfl) ?_
            refine RG.pv rfl (PV.add rfl rfl rfl (by omega)) ?_
            refine RG.pv rfl (PV.mvI (.inr rfl) rfl) ?_
            refine RG.nil ?_
            have ep : ptOf ((gd Q2 i).1 + dx, (gd Q2 i).2 + dy) = ⟨(gd Q2 i).1 - 40 + dx, (gd Q2 i).2 - 40 + dy⟩ := by simp only [ptOf, Pt.mk.injEq]; omega
            exact ⟨rfl, dx + 1, (Q2 ++ [((gd Q2 i).1 + dx, (gd Q2 i).2 + dy)]), (O2.set (((gd Q2 i).2 + dy).toNat * 80 + ((gd Q2 i).1 + dx).toNat) true), v94, ⟨by omega, hF2.add ⟨by omega, by omega⟩ ⟨by omega, by omega⟩ a7 a6 hi2 (adj_near hb2 (by omega) a1 (fun e => by have := (hF2.on i hi2).2.2; simp only [qc] at this; rw [e.1, e.2, Int.add_zero, Int.add_zero, this] at a7; cases a7) a2 a3), hD2.add hi2 (fun c hc => on_set hl2 ⟨by omega, by omega⟩ ⟨by omega, by omega⟩ hc), on_set hl2 ⟨by omega, by omega⟩ ⟨by omega, by omega⟩ h02, by simp; omega, by rw [gd_app_l hi2]; exact hq2, by rw [← hq2] at hN2 ⊢; exact hN2.take hl2 hb2 (by omega) (by omega)⟩, ⟨rfl, rfl, trivial⟩, ⟨rfl, rfl, rfl, rfl, rfl, trivial⟩, (Cv.p (C := osl 4 boolT v17 (O2.set (((gd Q2 i).2 + dy).toNat * 80 + ((gd Q2 i).1 + dx).toNat) true) :: osl 168 ptT v94 (Q2.map ptOf ++ [⟨(gd Q2 i).1 - 40 + dx, (gd Q2 i).2 - 40 + dy⟩]) :: L)).trans (Cv.cast (by rw [List.map_append, ← ep]; rfl)), by omega⟩
          · have h6 : (dx ≠ 0 ∧ dy ≠ 0) ∨ (gd Q2 i).1 + dx < 0 ∨ (gd Q2 i).2 + dy < 0 ∨ (gd Q2 i).1 + dx ≥ 80 ∨ (gd Q2 i).2 + dy ≥ 80 ∨ gb S ((gd Q2 i).2 + dy).toNat ((gd Q2 i).1 + dx).toNat = false ∨ gb O2 ((gd Q2 i).2 + dy).toNat ((gd Q2 i).1 + dx).toNat = true := by
              have hn : ¬ _ := fun hh => by rw [hcon.2 hh] at h5; cases h5
              by_cases c1 : dx = 0 ∨ dy = 0
              · by_cases c2 : 0 ≤ (gd Q2 i).1 + dx ∧ 0 ≤ (gd Q2 i).2 + dy ∧ (gd Q2 i).1 + dx < 80 ∧ (gd Q2 i).2 + dy < 80
                · cases c3 : gb S ((gd Q2 i).2 + dy).toNat ((gd Q2 i).1 + dx).toNat
                  · simp
                  · cases c4 : gb O2 ((gd Q2 i).2 + dy).toNat ((gd Q2 i).1 + dx).toNat
                    · exact absurd ⟨c1, c2, c3, c4⟩ hn
                    · simp
                · omega
              · omega
            refine WP.skip ?_
            refine WP.region ?_
            refine RG.pv rfl (PV.mvI (.inl rfl) rfl) ?_
            refine RG.pv rfl (PV.add rfl rfl rfl (by omega)) ?_
            refine RG.pv rfl (PV.mvI (.inr rfl) rfl) ?_
            refine RG.nil ?_
            exact ⟨rfl, dx + 1, Q2, O2, qv2, ⟨by omega, hF2, hD2, h02, hi2, hq2, by rw [← hq2] at hN2 ⊢; exact hN2.skip hb2 h6⟩, ⟨rfl, rfl, trivial⟩, ⟨rfl, rfl, rfl, rfl, rfl, trivial⟩, Cv.p, by omega⟩
      · have h4 := of_decide_eq_false h4
        refine WP.exit ?_
        refine WP.region ?_
        refine RG.pv rfl (PV.mvI (.inl rfl) rfl) ?_
        refine RG.pv rfl (PV.add rfl rfl rfl (by omega)) ?_
        refine RG.pv rfl (PV.mvI (.inr rfl) rfl) ?_
        refine RG.nil ?_
        exact ⟨rfl, dy + 1, Q2, O2, qv2, ⟨by omega, hF2, hD2, h02, hi2, hq2, by obtain rfl : dx = 2 := (by omega); exact hN2.next⟩, ⟨rfl, rfl, trivial⟩, ⟨rfl, rfl, rfl, rfl, trivial⟩, Cv.p, by omega⟩
    · have h3 := of_decide_eq_false h3
      refine WP.exit ?_
      refine WP.region ?_
      refine RG.pv rfl (PV.mvI (.inl rfl) rfl) ?_
      refine RG.pv rfl (PV.add rfl rfl rfl (by omega)) ?_
      refine RG.pv rfl (PV.mvI (.inr rfl) rfl) ?_
      refine RG.nil ?_
      exact ⟨rfl, i + 1, Q1, O1, qv1, ⟨by omega, hF1, hD1.next (by rw [hq1]) (by obtain rfl : dy = 2 := (by omega); exact hN1), h01⟩, ⟨rfl, rfl, trivial⟩, ⟨rfl, rfl, rfl, trivial⟩, Cv.p, by omega⟩
  · have h2 := of_decide_eq_false h2
    obtain rfl : i = Q.length := by omega
    rw [← hF.final hseed h0 hD] at k
    refine WP.exit ?_
    refine WP.seq ?_
    refine WP.region ?_
    refine RG.pv rfl (PV.move (v := v17) rfl rfl) ?_
    refine RG.pv rfl (PV.asg (v := v17) rfl rfl) ?_
    refine RG.nil ?_
    refine WP.ret ?_
    exact ⟨_, _, ResV.one rfl rfl, Cv.p, k v17⟩
/-- of the cells of S, those of D are done -/
def leftB (S D : List Bool) : List Bool := zipB (fun p q => p && !q) S D
theorem gb_left {S D : List Bool} (hS : S.length = 6400) (hD : D.length = 6400) {y x : Nat} (hy : y < 80) (hx : x < 80) : gb (leftB S D) y x = (gb S y x && !gb D y x) := gb_zip hS hD hy hx
theorem leftB_len {S D : List Bool} (hS : S.length = 6400) (hD : D.length = 6400) : (leftB S D).length = 6400 := zipB_len hS hD
theorem flood7n_s {v : Value} {S : List Bool} {x y : Nat} (h1 : Rs G L boolT v S) (hS : S.length = 6400) (hx : x < 80) (hy : y < 80) (hon : gb S y x = true)
    (k : ∀ v', R v' G (osl 4 boolT v' (compB S (y, x)) :: L)) : CallT Tryz.prog 219 #[v, vi ((x : Int) - 40), vi ((y : Int) - 40), .bool false] G L R :=
  flood7_s (x := (x : Int)) (y := (y : Int)) h1 hS (by omega) (by omega) (by rw [Int.toNat_natCast, Int.toNat_natCast]; exact hon) (by rw [Int.toNat_natCast, Int.toNat_natCast]; exact k)
theorem parts7_s {v : Value} {S : List Bool} (h1 : Rs G L boolT v S) (hS : S.length = 6400) (k : ∀ v' zs, er zs = comps S → R v' G (osl 111 slT v' zs :: bagS 4 boolT zs :: L)) : CallT Tryz.prog 199 #[v, .bool false] G L R := by
  have hrl : (List.replicate S.length false).length = 6400 := by simp [hS]
  have hl0 : leftB S (List.replicate 6400 false) = S := gb_ext (leftB_len hS List.length_replicate) hS fun y x hy hx => by
    rw [gb_left hS List.length_replicate hy hx, gb_rep']; simp
  refine CallT.enter (args := _) Tryz.func199 rfl rfl (by kernel_rfl) rfl ?_
  refine WP.seq ?_
  refine WP.region ?_
  refine RG.pv rfl (PV.asg rfl rfl) ?_
  refine RG.nil ?_
  refine WP.seq ?_
  refine WP.region ?_
  refine RG.ot rfl (OT.bslice (F := (slT (α := Bool))) (els := []) rfl El131 rfl (by decide) rfl (by decide) trivial fun v10 => ?_)
  refine RG.pv rfl (PV.asg (v := v10) rfl rfl) ?_
  refine RG.nil ?_
  refine WP.seq ?_
  refine WP.region ?_
  refine RG.pv rfl (PV.move (v := v) rfl rfl) ?_
  refine RG.pv rfl (PV.len (v := v) rfl Tryz.underlying111 rfl (SlF.r h1)) ?_
  refine RG.ot rfl (OT.make (F := boolT) (a0 := false) rfl El111 rfl (by decide) rfl rfl (by omega) (by omega) fun v13 => ?_)
  refine RG.pv rfl (PV.asg (v := v13) rfl rfl) ?_
  refine RG.nil ?_
  refine WP.seq ?_
  refine WP.seq ?_
  refine WP.region ?_
  refine RG.pv rfl (PV.mvI (.inr rfl) rfl) ?_
  refine RG.nil ?_
  refine WP.block ?_
  refine WP.cv (((Cv.p (C := osl 111 slT v10 ([] : List (Sl Bool)) :: osl 4 boolT v13 (List.replicate S.length false) :: L)).trans (Cv.cons (Cv.bag0 (e := 4) (F := boolT) (xs := []) rfl)))) ?_
  refine WP.loop5 [0, 1] (fun (yy : Int) (D : List Bool) (zs : List (Sl Bool)) (q : Value) (dv : Value) => (-40 ≤ yy ∧ yy ≤ 40) ∧ D.length = 6400 ∧ PI id S ((yy + 40).toNat * 80) (leftB S D) (er zs)) (fun (yy : Int) (D : List Bool) (zs : List (Sl Bool)) (q : Value) (dv : Value) => [(7, vi yy), (5, q), (6, dv)]) (fun (yy : Int) (D : List Bool) (zs : List (Sl Bool)) (q : Value) (dv : Value) => osl 111 slT q zs :: bagS 4 boolT zs :: osl 4 boolT dv D :: L) (fun (yy : Int) (D : List Bool) (zs : List (Sl Bool)) (q : Value) (dv : Value) => (40 - yy).toNat) (-40) (List.replicate S.length false) [] v10 v13 ⟨by omega, hrl, by rw [hS, hl0]; exact PI.start hS⟩ ⟨rfl, rfl, rfl, trivial⟩ Cv.p ?_
  rintro yy D zs q dv τ ⟨hy, hDl, hP⟩
  refine WP.seq ?_
  refine WP.seq ?_
  refine WP.region ?_
  refine RG.pv rfl (PV.mvI (.inl rfl) rfl) ?_
  refine RG.pv rfl (PV.lss rfl rfl rfl) ?_
  refine RG.nil ?_
  obtain ⟨y, rfl⟩ : ∃ n : Nat, yy = (n : Int) - 40 := ⟨(yy + 40).toNat, by omega⟩
  rw [show ((y : Int) - 40 + 40).toNat = y by omega] at hP
  refine WP.cond rfl (fun h2 => ?_) (fun h2 => ?_)
  · have h2 := of_decide_eq_true h2
    refine WP.skip ?_
    refine WP.seq ?_
    refine WP.block ?_
    refine WP.seq ?_
    refine WP.region ?_
    refine RG.pv rfl (PV.mvI (.inr rfl) rfl) ?_
    refine RG.nil ?_
    refine WP.block ?_
    refine WP.loop5 [0, 1, 7] (fun (xx : Int) (D1 : List Bool) (zs1 : List (Sl Bool)) (q1 : Value) (dv1 : Value) => (-40 ≤ xx ∧ xx ≤ 40) ∧ D1.length = 6400 ∧ PI id S (y * 80 + (xx + 40).toNat) (leftB S D1) (er zs1)) (fun (xx : Int) (D1 : List Bool) (zs1 : List (Sl Bool)) (q1 : Value) (dv1 : Value) => [(8, vi xx), (5, q1), (6, dv1)]) (fun (xx : Int) (D1 : List Bool) (zs1 : List (Sl Bool)) (q1 : Value) (dv1 : Value) => osl 111 slT q1 zs1 :: bagS 4 boolT zs1 :: osl 4 boolT dv1 D1 :: L) (fun (xx : Int) (D1 : List Bool) (zs1 : List (Sl Bool)) (q1 : Value) (dv1 : Value) => (40 - xx).toNat) (-40) D zs q dv ⟨by omega, hDl, by rw [show ((-40 : Int) + 40).toNat = 0 from rfl]; exact hP⟩ ⟨rfl, rfl, rfl, trivial⟩ Cv.p ?_
    rintro xx D1 zs1 q1 dv1 τ1 ⟨hx, hDl, hP1⟩
    refine WP.seq ?_
    refine WP.seq ?_
    refine WP.region ?_
    refine RG.pv rfl (PV.mvI (.inl rfl) rfl) ?_
    refine RG.pv rfl (PV.lss rfl rfl rfl) ?_
    refine RG.nil ?_
    obtain ⟨x, rfl⟩ : ∃ n : Nat, xx = (n : Int) - 40 := ⟨(xx + 40).toNat, by omega⟩
    rw [show ((x : Int) - 40 + 40).toNat = x by omega] at hP1
    refine WP.cond rfl (fun h3 => ?_) (fun h3 => ?_)
    · have h3 := of_decide_eq_true h3
      have hzl : zs1.length ≤ y * 80 + x := by
        have := congrArg List.length hP1.er
        have h1 := firsts_len S (y * 80 + x)
        rw [er_len, List.length_map] at this; omega
      have e1 : (y * 80 + x) / 80 = y := by omega
      have e2 : (y * 80 + x) % 80 = x := by omega
      have e3 : cel (y * 80 + x) = (y, x) := by rw [cel, e1, e2]
      have e4 : ((x : Int) - 40 + 1 + 40).toNat = x + 1 := by omega
      have hg := gb_left hS hDl (y := y) (x := x) (by omega) (by omega)
      refine WP.skip ?_
      refine WP.seq ?_
      refine WP.block ?_
      refine WP.seq ?_
      refine WP.region ?_
      refine RG.pv rfl (PV.move (v := v) rfl rfl) ?_
      refine RG.pv rfl (PV.mvI (.inl rfl) rfl) ?_
      refine RG.pv rfl (PV.mvI (.inl rfl) rfl) ?_
      refine RG.callF (vs := [_, _]) rfl rfl En146 rfl (l03At_s (by first | omega | (simp at hp; omega)) ?_)
      refine RG.pv rfl (PV.idxS (j := y * 80 + x) (v := v) rfl Is111 rfl (SlF.r h1) rfl (by omega) (by omega)) ?_
      refine RG.pv rfl (PV.loadE1 rfl Sc4 rfl rfl (El.r h1 (getG (by omega))) rfl) ?_
      refine RG.pv rfl (PV.mvB (.inl rfl) rfl) ?_
      refine RG.gs rfl rfl rfl (fun hp => (PV.move (v := dv1) rfl rfl)) ?_
      refine RG.gs rfl rfl rfl (fun hp => (PV.mvI (.inl rfl) rfl)) ?_
      refine RG.gs rfl rfl rfl (fun hp => (PV.mvI (.inl rfl) rfl)) ?_
      refine RG.gsC rfl rfl rfl rfl En146 (fun hp => ⟨_, (acons (gs_t hp) (acons (gs_t hp) anil)), l03At_s (by first | omega | (simp at hp; omega)) ⟨rfl, rfl, rfl⟩⟩) ?_
      refine RG.gs rfl rfl rfl (fun hp => (PV.idxS (j := y * 80 + x) (v := dv1) rfl Is111 (gs_t hp) SlF.o (gs_t hp) (by first | omega | (simp [within, hasI] at hp; omega)) (by first | omega | (simp [within, hasI] at hp; omega)))) ?_
      refine RG.gs rfl rfl rfl (fun hp => (PV.loadE1 rfl Sc4 (gs_t hp) rfl (El.o (getG (by first | omega | (simp [within, hasI] at hp; omega)))) rfl)) ?_
      refine RG.gs rfl rfl rfl (fun hp => (PV.not rfl (gs_t hp))) ?_
      refine RG.pv rfl (PV.pickA rfl rfl (fun hq => gs_t (geqT hq)) rfl) ?_
      refine RG.nil ?_
      refine WP.cond rfl (fun h4 => ?_) (fun h4 => ?_)
      · have h6 : gb (leftB S D1) y x = true := by rw [hg]; exact h4
        have h5 : gb S y x = true := by rw [hg, Bool.and_eq_true] at h6; exact h6.1
        refine WP.seq ?_
        refine WP.region ?_
        refine RG.pv rfl (PV.move (v := v) rfl rfl) ?_
        refine RG.pv rfl (PV.mvI (.inl rfl) rfl) ?_
        refine RG.pv rfl (PV.mvI (.inl rfl) rfl) ?_
        refine RG.pv rfl (PV.mvB (.inl rfl) rfl) ?_
        refine RG.callF (vs := [v, _, _, _]) rfl rfl En219 rfl (flood7n_s (Rs.up h1) hS (by omega) (by omega) h5 (fun v41 => ?_))
        refine RG.pv rfl (PV.asg (v := v41) rfl rfl) ?_
        refine RG.nil ?_
        refine WP.seq ?_
        refine WP.region ?_
        refine RG.pv rfl (PV.move (v := dv1) rfl rfl) ?_
        refine RG.pv rfl (PV.move (v := v41) rfl rfl) ?_
        refine RG.callF (vs := [dv1, v41, _]) rfl rfl En162 rfl (l04Combine_s Rs.o Rs.o hDl (compB_len _ _) (by omega) (fun v44 => ?_))
        refine RG.pv rfl (PV.asg (v := v44) rfl rfl) ?_
        refine RG.nil ?_
        refine WP.region ?_
        refine RG.pv rfl (PV.move (v := q1) rfl rfl) ?_
        refine RG.pv rfl (PV.move (v := v41) rfl rfl) ?_
        refine RG.ot rfl (OT.bslice (F := (slT (α := Bool))) (els := [⟨v41, compB S (y, x)⟩]) rfl El131 rfl (by decide) rfl (by decide) ⟨rfl, (Cl.s (v := v41) SlF.o), trivial⟩ fun v47 => ?_)
        refine RG.ot rfl (OT.append (v := q1) (u := v47) (F := (slT (α := Bool))) rfl El131 rfl (by decide) rfl rfl Rs.o (OneL.one (OneC.sl SlF.o OneC.nil)) rfl (by first | omega | (simp <;> omega)) fun v48 => ?_)
        refine RG.pv rfl (PV.asg (v := v48) rfl rfl) ?_
        refine RG.nil ?_
        refine WP.region ?_
        refine RG.pv rfl (PV.mvI (.inl rfl) rfl) ?_
        refine RG.pv rfl (PV.add rfl rfl rfl (by omega)) ?_
        refine RG.pv rfl (PV.mvI (.inr rfl) rfl) ?_
        refine RG.nil ?_
        have hcm := hP1.comp (n := y * 80 + x) (by omega) (by rw [e1, e2]; exact h6)
        rw [e3] at hcm
        refine ⟨rfl, (x : Int) - 40 + 1, (zipB (opF 14) D1 (compB S (y, x))), (zs1 ++ [⟨v41, compB S (y, x)⟩]), v48, v44, ⟨by omega, zipB_len hDl (compB_len _ _), ?_⟩, ⟨rfl, rfl, rfl, trivial⟩, ⟨rfl, rfl, rfl, trivial⟩, ((Cv.p (C := osl 4 boolT v41 (compB S (y, x)) :: bagS 4 boolT zs1 :: osl 111 slT v48 (zs1 ++ [⟨v41, compB S (y, x)⟩]) :: osl 4 boolT v44 (zipB (opF 14) D1 (compB S (y, x))) :: L)).trans (Cv.bagS_add.trans Cv.p)), by omega⟩
        rw [e4, er, List.map_append]
        have hk := hP1.take (T' := leftB S (zipB (opF 14) D1 (compB S (y, x)))) (n := y * 80 + x) (by omega) (by rw [e1, e2]; exact h6) (leftB_len hS (zipB_len hDl (compB_len _ _))) (fun y' x' hy' hx' => by
          rw [gb_left hS (zipB_len hDl (compB_len _ _)) hy' hx', gb_left hS hDl hy' hx', gb_zip hDl (compB_len _ _) hy' hx', e3, hcm, show ∀ a b : Bool, opF 14 a b = (a || b) by decide]
          cases gb S y' x' <;> cases gb D1 y' x' <;> simp)
        rw [e3, hcm] at hk
        exact hk
      · have h6 : gb (leftB S D1) y x = false := by rw [hg]; exact h4
        refine WP.skip ?_
        refine WP.region ?_
        refine RG.pv rfl (PV.mvI (.inl rfl) rfl) ?_
        refine RG.pv rfl (PV.add rfl rfl rfl (by omega)) ?_
        refine RG.pv rfl (PV.mvI (.inr rfl) rfl) ?_
        refine RG.nil ?_
        exact ⟨rfl, (x : Int) - 40 + 1, D1, zs1, q1, dv1, ⟨by omega, hDl, by rw [e4]; exact hP1.skip (by omega) (by rw [e1, e2]; exact h6)⟩, ⟨rfl, rfl, rfl, trivial⟩, ⟨rfl, rfl, rfl, trivial⟩, Cv.p, by omega⟩
    · have h3 := of_decide_eq_false h3
      obtain rfl : x = 80 := by omega
      refine WP.exit ?_
      refine WP.region ?_
      refine RG.pv rfl (PV.mvI (.inl rfl) rfl) ?_
      refine RG.pv rfl (PV.add rfl rfl rfl (by omega)) ?_
      refine RG.pv rfl (PV.mvI (.inr rfl) rfl) ?_
      refine RG.nil ?_
      exact ⟨rfl, (y : Int) - 40 + 1, D1, zs1, q1, dv1, ⟨by omega, hDl, by rw [show ((y : Int) - 40 + 1 + 40).toNat = y + 1 by omega, Nat.add_mul]; exact hP1⟩, ⟨rfl, rfl, rfl, trivial⟩, ⟨rfl, rfl, trivial⟩, Cv.p, by omega⟩
  · have h2 := of_decide_eq_false h2
    obtain rfl : y = 80 := by omega
    have hz := hP.all
    refine WP.exit ?_
    refine WP.seq ?_
    refine WP.region ?_
    refine RG.pv rfl (PV.move (v := q) rfl rfl) ?_
    refine RG.pv rfl (PV.asg (v := q) rfl rfl) ?_
    refine RG.nil ?_
    refine WP.ret ?_
    exact ⟨_, _, ResV.one rfl rfl, Cv.p, k q zs hz⟩
theorem comps7_s {v : Value} {xs : List Rect} (h1 : Rs G L rectT v xs) (hv : validRs xs = true) (k : ∀ v' zs, er zs = partsL (bits xs) → R v' G (osl 28 slT v' zs :: bagS 71 rectT zs :: L)) : CallT Tryz.prog 172 #[v] G L R := by
  refine CallT.enter (args := _) Tryz.func172 rfl rfl (by kernel_rfl) rfl ?_
  refine WP.seq ?_
  refine WP.region ?_
  refine RG.pv rfl (PV.asg rfl rfl) ?_
  refine RG.nil ?_
  refine WP.seq ?_
  refine WP.region ?_
  refine RG.ot rfl (OT.bslice (F := (slT (α := Rect))) (els := []) rfl El32 rfl (by decide) rfl (by decide) trivial fun v6 => ?_)
  refine RG.pv rfl (PV.asg (v := v6) rfl rfl) ?_
  refine RG.nil ?_
  refine WP.seq ?_
  refine WP.region ?_
  refine RG.pv rfl (PV.move (v := v) rfl rfl) ?_
  refine RG.callF (vs := [v]) rfl rfl En89 rfl (l03Bits_s (Rs.up h1) (fun j hj => valid_get hv hj) (fun v8 => ?_))
  refine RG.callF (vs := [v8, _]) rfl rfl En199 rfl (parts7_s Rs.o (bits_length _) (fun v9 zsv9 hev9 => ?_))
  refine RG.pv rfl (PV.asg (v := v9) rfl rfl) ?_
  refine RG.nil ?_
  refine WP.seq ?_
  refine WP.seq ?_
  refine WP.region ?_
  refine RG.pv rfl (PV.mvI (.inr rfl) rfl) ?_
  refine RG.nil ?_
  refine WP.block ?_
  have hzl : zsv9.length ≤ 6400 := by
    have := congrArg List.length hev9
    have h2 := comps_len (bits xs)
    rw [er_len] at this; omega
  refine WP.cv (((Cv.p (C := osl 28 slT v6 ([] : List (Sl Rect)) :: osl 111 slT v9 zsv9 :: bagS 4 boolT zsv9 :: L)).trans (Cv.cons (Cv.bag0 (e := 71) (F := rectT) (xs := []) rfl)))) ?_
  refine WP.loop3 [4] (fun (i : Nat) (ys : List (Sl Rect)) (q : Value) => i ≤ zsv9.length ∧ er ys = ((er zsv9).take i).map canon) (fun (i : Nat) (ys : List (Sl Rect)) (q : Value) => [(5, vi i), (3, q)]) (fun (i : Nat) (ys : List (Sl Rect)) (q : Value) => osl 28 slT q ys :: bagS 71 rectT ys :: osl 111 slT v9 zsv9 :: bagS 4 boolT zsv9 :: L) (fun (i : Nat) (ys : List (Sl Rect)) (q : Value) => zsv9.length - i) 0 [] v6 ⟨by omega, rfl⟩ ⟨rfl, rfl, trivial⟩ Cv.p ?_
  rintro i ys q τ ⟨hi, hys⟩
  refine WP.seq ?_
  refine WP.seq ?_
  refine WP.region ?_
  refine RG.pv rfl (PV.mvI (.inl rfl) rfl) ?_
  refine RG.pv rfl (PV.move (v := v9) rfl rfl) ?_
  refine RG.pv rfl (PV.len (v := v9) rfl Tryz.underlying131 rfl SlF.o) ?_
  refine RG.pv rfl (PV.lss rfl rfl rfl) ?_
  refine RG.nil ?_
  have hyl : ys.length = i := by
    have := congrArg List.length hys
    rw [er_len, List.length_map, List.length_take, er_len] at this; omega
  refine WP.cond rfl (fun h3 => ?_) (fun h3 => ?_)
  · have h3 := of_decide_eq_true h3
    have hci : (gd zsv9 i).xs.length = 6400 := by
      have e : (gd zsv9 i).xs ∈ comps (bits xs) := by rw [← hev9, ← er_gd]; rw [gd_eq (by rw [er_len]; omega)]; exact List.getElem_mem _
      obtain ⟨j0, _, e2⟩ := List.mem_map.1 e
      rw [← e2]; exact compB_len _ _
    refine WP.skip ?_
    refine WP.seq ?_
    refine WP.block ?_
    refine WP.region ?_
    refine RG.pv rfl (PV.move (v := q) rfl rfl) ?_
    refine RG.pv rfl (PV.move (v := v9) rfl rfl) ?_
    refine RG.pv rfl (PV.mvI (.inl rfl) rfl) ?_
    refine RG.pv rfl (PV.idxS (v := v9) rfl Is131 rfl SlF.o rfl rfl (by omega)) ?_
    refine RG.pv rfl (PV.loadE1 rfl Sc111 rfl rfl (El.o (getG (by omega))) rfl) ?_
    refine RG.callF (vs := [_]) rfl rfl En88 rfl (l03Canon_s (Rs.inBag (xs := zsv9) i (by omega)) hci (fun v21 => ?_))
    refine RG.ot rfl (OT.bslice (F := (slT (α := Rect))) (els := [⟨v21, canon (gd zsv9 i).xs⟩]) rfl El32 rfl (by decide) rfl (by decide) ⟨rfl, (Cl.s (v := v21) SlF.o), trivial⟩ fun v22 => ?_)
    refine RG.ot rfl (OT.append (v := q) (u := v22) (F := (slT (α := Rect))) rfl El32 rfl (by decide) rfl rfl Rs.o (OneL.one (OneC.sl SlF.o OneC.nil)) rfl (by first | omega | (simp <;> omega)) fun v23 => ?_)
    refine RG.pv rfl (PV.asg (v := v23) rfl rfl) ?_
    refine RG.nil ?_
    refine WP.region ?_
    refine RG.pv rfl (PV.mvI (.inl rfl) rfl) ?_
    refine RG.pv rfl (PV.add rfl rfl rfl (by omega)) ?_
    refine RG.pv rfl (PV.mvI (.inr rfl) rfl) ?_
    refine RG.nil ?_
    refine ⟨rfl, i + 1, (ys ++ [⟨v21, canon (gd zsv9 i).xs⟩]), v23, ⟨by omega, ?_⟩, ⟨rfl, rfl, trivial⟩, ⟨rfl, trivial⟩, ((Cv.p (C := osl 71 rectT v21 (canon (gd zsv9 i).xs) :: bagS 71 rectT ys :: osl 28 slT v23 (ys ++ [⟨v21, canon (gd zsv9 i).xs⟩]) :: osl 111 slT v9 zsv9 :: bagS 4 boolT zsv9 :: L)).trans (Cv.bagS_add.trans Cv.p)), by omega⟩
    rw [List.take_add_one, getG (by rw [er_len]; omega), List.map_append, ← hys, er_gd, er, List.map_append]; rfl
  · have h3 := of_decide_eq_false h3
    rw [List.take_of_length_le (by rw [er_len]; omega), hev9] at hys
    refine WP.exit ?_
    refine WP.seq ?_
    refine WP.region ?_
    refine RG.pv rfl (PV.move (v := q) rfl rfl) ?_
    refine RG.pv rfl (PV.asg (v := q) rfl rfl) ?_
    refine RG.nil ?_
    refine WP.ret ?_
    exact ⟨_, _, ResV.one rfl rfl, Cv.p, k q ys hys⟩
noncomputable def partN (r : List Rect) : Nat := (partsL (bits r)).length
noncomputable def connR (r : List Rect) : Bool := isReg r && decide (partN r = 1)
theorem compN_s {v : Value} {xs : List Rect} (h1 : Rs G L rectT v xs) (k : R (vi (if isReg xs = true then (partN xs : Int) else -1)) G L) : CallT Tryz.prog 220 #[v] G L R := by
  refine CallT.enter (args := _) Tryz.func220 rfl rfl (by kernel_rfl) rfl ?_
  refine WP.seq ?_
  refine WP.region ?_
  refine RG.pv rfl (PV.mvI (.inr rfl) rfl) ?_
  refine RG.nil ?_
  refine WP.seq ?_
  refine WP.seq ?_
  refine WP.region ?_
  refine RG.pv rfl (PV.move (v := v) rfl rfl) ?_
  refine RG.callF (vs := [v]) rfl rfl En35 rfl (l03Ok_s (Rs.up h1) ?_)
  refine RG.pv rfl (PV.not rfl rfl) ?_
  refine RG.nil ?_
  refine WP.cond rfl (fun h2 => ?_) (fun h2 => ?_)
  · rw [if_neg (by simpa using h2)] at k
    refine WP.seq ?_
    refine WP.region ?_
    refine RG.pv rfl (PV.mvI (.inr rfl) rfl) ?_
    refine RG.nil ?_
    refine WP.ret ?_
    exact ⟨_, _, ResV.one rfl rfl, Cv.p, k⟩
  · have hreg : isReg xs = true := by simpa using h2
    rw [if_pos hreg] at k
    refine WP.skip ?_
    refine WP.seq ?_
    refine WP.region ?_
    refine RG.pv rfl (PV.move (v := v) rfl rfl) ?_
    refine RG.callF (vs := [v]) rfl rfl En172 rfl (comps7_s (Rs.up h1) (isReg_valid hreg) (fun v7 zsv7 hev7 => ?_))
    refine RG.pv rfl (PV.len (v := v7) rfl Tryz.underlying32 rfl SlF.o) ?_
    refine RG.pv rfl (PV.mvI (.inr rfl) rfl) ?_
    refine RG.nil ?_
    refine WP.ret ?_
    have e : partN xs = zsv7.length := by rw [partN, ← hev7, er_len]
    rw [e] at k
    exact ⟨_, _, ResV.one rfl rfl, Cv.p, k⟩
theorem connR_s {v : Value} {xs : List Rect} (h1 : Rs G L rectT v xs) (k : R (.bool (connR xs)) G L) : CallT Tryz.prog 201 #[v] G L R := by
  have e : connR xs = decide ((if isReg xs = true then (partN xs : Int) else -1) = 1) := by
    rw [connR, Bool.eq_iff_iff]
    cases isReg xs <;> simp; omega
  rw [e] at k
  refine CallT.enter (args := _) Tryz.func201 rfl rfl (by kernel_rfl) rfl ?_
  refine WP.seq ?_
  refine WP.region ?_
  refine RG.pv rfl (PV.mvB (.inr rfl) rfl) ?_
  refine RG.nil ?_
  refine WP.seq ?_
  refine WP.region ?_
  refine RG.pv rfl (PV.move (v := v) rfl rfl) ?_
  refine RG.callF (vs := [v]) rfl rfl En220 rfl (compN_s (Rs.up h1) ?_)
  refine RG.pv rfl (PV.eql rfl rfl rfl) ?_
  refine RG.pv rfl (PV.mvB (.inr rfl) rfl) ?_
  refine RG.nil ?_
  refine WP.ret ?_
  exact ⟨_, _, ResV.one rfl rfl, Cv.p, k⟩
theorem connR_i {v : Value} {xs : List Rect} (h1 : Rs G L rectT v xs) (k : R (.bool (connR xs)) G L) : CallT Tryz.prog 131 #[v] G L R := by
  refine CallT.enter (args := _) Tryz.func131 rfl rfl (by kernel_rfl) rfl ?_
  refine WP.seq ?_
  refine WP.region ?_
  refine RG.pv rfl (PV.mvB (.inr rfl) rfl) ?_
  refine RG.nil ?_
  refine WP.seq ?_
  refine WP.region ?_
  refine RG.pv rfl (PV.move (v := v) rfl rfl) ?_
  refine RG.callF (vs := [v]) rfl rfl En40 rfl (isRegion_s (Rs.up h1) ?_)
  refine RG.pv rfl (PV.mvB (.inl rfl) rfl) ?_
  refine RG.spl (t := 5) rfl (fun g => ?_) (fun g => ?_)
  · refine RG.take rfl rfl rfl g ?_
    refine RG.pv rfl (PV.move (v := v) rfl rfl) ?_
    refine RG.take rfl rfl rfl g ?_
    refine RG.callF (vs := [v]) rfl rfl En178 rfl (components_s (Rs.up h1) (fun v7 zsv7 hev7 => ?_))
    refine RG.take rfl rfl rfl g ?_
    refine RG.pv rfl (PV.len (v := v7) rfl Tryz.underlying32 rfl SlF.o) ?_
    refine RG.take rfl rfl rfl g ?_
    refine RG.pv rfl (PV.eql rfl rfl rfl) ?_
    refine RG.pv rfl (PV.pickT rfl rfl g rfl) ?_
    refine RG.pv rfl (PV.mvB (.inr rfl) rfl) ?_
    refine RG.nil ?_
    refine WP.ret ?_
    have e : connR xs = decide ((zsv7.length : Int) = 1) := by
      rw [connR, g, partN, ← hev7, er_len, Bool.true_and, decide_eq_decide]; omega
    rw [e] at k
    exact ⟨_, _, ResV.one rfl rfl, Cv.p, k⟩
  · have e : connR xs = false := by rw [connR, g]; rfl
    rw [e] at k
    refine RG.skip rfl rfl rfl (gne g) ?_
    refine RG.skip rfl rfl rfl (gne g) ?_
    refine RG.skip rfl rfl rfl (gne g) ?_
    refine RG.skip rfl rfl rfl (gne g) ?_
    refine RG.pv rfl (PV.pickE rfl rfl g rfl) ?_
    refine RG.pv rfl (PV.mvB (.inr rfl) rfl) ?_
    refine RG.nil ?_
    refine WP.ret ?_
    exact ⟨_, _, ResV.one rfl rfl, Cv.p, k⟩
end Go.Proofs.YtpjajhjcbcfplaaGreat
namespace Go.Proofs.YtpjajhjcbcfplaaGreat
set_option linter.unusedVariables false
set_option linter.unusedSimpArgs false
open Go
set_option maxRecDepth 20000
set_option linter.unusedSimpArgs false
variable {G : Gh} {L : List Ch} {R : Value → Gh → List Ch → Prop}
/-- only what lies in memory matters -/
theorem Cv.flat {α : Type} {e : TypeId} {F : FT α} {v : Value} {xs ys : List α} {L : List Ch} (h : F.flat xs = F.flat ys) (hl : xs.length = ys.length) : Cv (osl e F v xs :: L) (osl e F v ys :: L) :=
  Cv.imp fun hp hc => by
    rcases hc with ⟨rfl, rfl⟩ | ⟨b, cap, c, h1, h2, h3, h4, h5, h6⟩
    · exact .inl ⟨rfl, List.eq_nil_of_length_eq_zero (by simpa using hl.symm)⟩
    · exact .inr ⟨b, cap, c, by rw [← hl]; exact h1, h2, by rw [← hl]; exact h3, h4, h5, by rw [← hl, ← h]; exact h6⟩
end Go.Proofs.YtpjajhjcbcfplaaGreat
namespace Go.Proofs.YtpjajhjcbcfplaaGreat
set_option linter.unusedVariables false
set_option linter.unusedSimpArgs false
open Go
set_option maxRecDepth 20000
set_option linter.unusedSimpArgs false
variable {G : Gh} {L : List Ch} {R : Value → Gh → List Ch → Prop}
def mks (xs : List Viol) : List (Sl Rect) := xs.map Viol.marker
theorem mks_len (xs : List Viol) : (mks xs).length = xs.length := by simp [mks]
theorem mks_gd {xs : List Viol} {i : Nat} (h : i < xs.length) : gd (mks xs) i = (gd xs i).marker := gd_map _ h
theorem RsE.marker {xs : List Viol} (h : RsE G L rectT (mks xs)) {i : Nat} (hi : i < xs.length) : Rs G L rectT (gd xs i).marker.v (gd xs i).marker.xs := by
  have := h i (by rw [mks_len]; exact hi); rwa [mks_gd hi] at this
def erV (p : Viol) : Int × List Rect := (p.rule, p.marker.xs)
def erVs (xs : List Viol) : List (Int × List Rect) := xs.map erV
theorem erVs_len (xs : List Viol) : (erVs xs).length = xs.length := by simp [erVs]
theorem erVs_gd {xs : List Viol} {i : Nat} (h : i < xs.length) : gd (erVs xs) i = erV (gd xs i) := gd_map _ h
end Go.Proofs.YtpjajhjcbcfplaaGreat
namespace Go.Proofs.YtpjajhjcbcfplaaGreat
set_option linter.unusedVariables false
set_option linter.unusedSimpArgs false
open Go
set_option maxRecDepth 20000
set_option linter.unusedSimpArgs false
variable {G : Gh} {L : List Ch} {R : Value → Gh → List Ch → Prop}
noncomputable def okV (v : Int × List Rect) : Bool := within v.1 0 11 && connR v.2
theorem okV_i {v : Viol} (h1 : Rs G L rectT v.marker.v v.marker.xs) (k : R (.bool (okV (erV v))) G L) : CallT Tryz.prog 75 #[vT violT v] G L R := by
  refine CallT.enter (args := _) Tryz.func75 rfl rfl (by kernel_rfl) rfl ?_
  refine WP.seq ?_
  refine WP.region ?_
  refine RG.ot rfl (OT.box (cs := violT.enc v) rfl rfl rfl fun b1 => ?_)
  refine RG.pv rfl (PV.mvB (.inr rfl) rfl) ?_
  refine RG.nil ?_
  refine WP.seq ?_
  refine WP.region ?_
  refine RG.pv rfl (PV.field rfl Fo63_0 rfl) ?_
  refine RG.pv rfl (PV.load1 rfl Sc2 rfl (Rd.blk rfl)) ?_
  refine RG.callF (vs := [_, _, _]) rfl rfl En92 rfl (within_s ?_)
  refine RG.pv rfl (PV.mvB (.inl rfl) rfl) ?_
  refine RG.gs rfl rfl rfl (fun hp => (PV.field rfl Fo63_1 rfl)) ?_
  refine RG.gs rfl rfl rfl (fun hp => (PV.load1 rfl Sc28 (gs_t hp) (Rd.blk rfl))) ?_
  refine RG.gsC rfl rfl rfl rfl En131 (fun hp => ⟨_, (acons (gs_t hp) anil), connR_i h1.up ⟨rfl, rfl, rfl⟩⟩) ?_
  refine RG.pv rfl (PV.pickA rfl rfl (fun hq => gs_t (geqT hq)) rfl) ?_
  refine RG.pv rfl (PV.mvB (.inr rfl) rfl) ?_
  refine RG.nil ?_
  refine WP.ret ?_
  exact ⟨_, _, ResV.one rfl rfl, Cv.p, k⟩
theorem okV_r {v : Viol} (h1 : Rs G L rectT v.marker.v v.marker.xs) (k : R (.bool (okV (erV v))) G L) : CallT Tryz.prog 173 #[vT violT v] G L R := by
  refine CallT.enter (args := _) Tryz.func173 rfl rfl (by kernel_rfl) rfl ?_
  refine WP.seq ?_
  refine WP.region ?_
  refine RG.ot rfl (OT.box (cs := violT.enc v) rfl rfl rfl fun b1 => ?_)
  refine RG.pv rfl (PV.mvB (.inr rfl) rfl) ?_
  refine RG.nil ?_
  refine WP.seq ?_
  refine WP.region ?_
  refine RG.pv rfl (PV.field rfl Fo63_0 rfl) ?_
  refine RG.pv rfl (PV.load1 rfl Sc2 rfl (Rd.blk rfl)) ?_
  refine RG.callF (vs := [_, _, _]) rfl rfl En200 rfl (l01In_s ?_)
  refine RG.pv rfl (PV.mvB (.inl rfl) rfl) ?_
  refine RG.gs rfl rfl rfl (fun hp => (PV.field rfl Fo63_1 rfl)) ?_
  refine RG.gs rfl rfl rfl (fun hp => (PV.load1 rfl Sc28 (gs_t hp) (Rd.blk rfl))) ?_
  refine RG.gsC rfl rfl rfl rfl En201 (fun hp => ⟨_, (acons (gs_t hp) anil), connR_s h1.up ⟨rfl, rfl, rfl⟩⟩) ?_
  refine RG.pv rfl (PV.pickA rfl rfl (fun hq => gs_t (geqT hq)) rfl) ?_
  refine RG.pv rfl (PV.mvB (.inr rfl) rfl) ?_
  refine RG.nil ?_
  refine WP.ret ?_
  exact ⟨_, _, ResV.one rfl rfl, Cv.p, k⟩
theorem okV_reg {v : Int × List Rect} (h : okV v = true) : isReg v.2 = true ∧ 0 < v.2.length ∧ 0 ≤ v.1 ∧ v.1 ≤ 11 := by
  simp only [okV, within, connR, Bool.and_eq_true, decide_eq_true_eq] at h
  obtain ⟨⟨h1, h2⟩, h3, h4⟩ := h
  refine ⟨h3, ?_, h1, h2⟩
  rcases Nat.eq_zero_or_pos v.2.length with e | e
  · exfalso
    have e1 := List.eq_nil_of_length_eq_zero e
    rw [partN, e1, partsL_len] at h4
    obtain ⟨⟨q1, q2, q3⟩, _⟩ := firsts_first (S := bits []) (n := 6400) (i := 0) (by omega)
    obtain ⟨r, hr, _⟩ := (gb_bits_iff q1 q2).1 q3
    cases hr
  · exact e
def ruleL (r : Rule) : List Int := [r.kind, r.layer, r.other, r.value, r.percent]
def sigR (r : Rule) (g : List Rect) : Int := hashL (regSig g) (ruleL r)
theorem ruleL_bd {r : Rule} (h : validRule r = true) : ∀ i, i < (ruleL r).length → 0 ≤ gd (ruleL r) i ∧ gd (ruleL r) i ≤ 4294967296 := by
  simp only [validRule, Bool.and_eq_true, within, decide_eq_true_eq] at h
  obtain ⟨⟨⟨⟨h1, h2⟩, h3⟩, h4⟩, h5⟩ := h
  have ho : 0 ≤ r.other ∧ r.other ≤ 7 := by
    revert h3; unfold okOther
    cases paired r.kind
    · simp; omega
    · simp [within]; omega
  have hv : 0 ≤ r.value ∧ r.value ≤ 6400 := by
    revert h4; unfold okVal
    split
    · simp [within]; omega
    · split
      · simp [within]; omega
      · simp [within]; omega
  have hp : 0 ≤ r.percent ∧ r.percent ≤ 100 := by
    revert h5; unfold okPct
    split
    · simp [within]; omega
    · simp; omega
  intro i hi
  match i, hi with
  | 0, _ => simp [ruleL, gd]; omega
  | 1, _ => simp [ruleL, gd]; omega
  | 2, _ => simp [ruleL, gd]; omega
  | 3, _ => simp [ruleL, gd]; omega
  | 4, _ => simp [ruleL, gd]; omega
theorem regSig_of {g : List Rect} (h : isReg g = true) (h0 : 0 < g.length) : regSig g = sigTo g 7 := by simp [regSig, h, h0]
theorem sigV_i {d : Deck} {v : Viol} (h1 : Rs G L ruleT d.rules.v d.rules.xs) (h2 : Rs G L rectT v.marker.v v.marker.xs) (hv : 0 ≤ v.rule ∧ v.rule < d.rules.xs.length) (hr : validRule (gd d.rules.xs v.rule.toNat) = true) (hreg : isReg v.marker.xs = true) (hne : 0 < v.marker.xs.length)
    (k : R (vi (sigR (gd d.rules.xs v.rule.toNat) v.marker.xs)) G L) : CallT Tryz.prog 76 #[vT deckT d, vT violT v] G L R := by
  have hl := isReg_len hreg
  rw [sigR, regSig_of hreg hne] at k
  refine CallT.enter (args := _) Tryz.func76 rfl rfl (by kernel_rfl) rfl ?_
  refine WP.seq ?_
  refine WP.region ?_
  refine RG.ot rfl (OT.box (cs := deckT.enc d) rfl rfl rfl fun b2 => ?_)
  refine RG.ot rfl (OT.box (cs := violT.enc v) rfl rfl rfl fun b3 => ?_)
  refine RG.pv rfl (PV.mvI (.inr rfl) rfl) ?_
  refine RG.nil ?_
  refine WP.seq ?_
  refine WP.region ?_
  refine RG.pv rfl (PV.field rfl Fo54_0 rfl) ?_
  refine RG.pv rfl (PV.load1 rfl Sc52 rfl (Rd.blk rfl)) ?_
  refine RG.pv rfl (PV.field rfl Fo63_0 rfl) ?_
  refine RG.pv rfl (PV.load1 rfl Sc2 rfl (Rd.blk rfl)) ?_
  refine RG.pv rfl (PV.idxS (j := v.rule.toNat) rfl Is52 rfl (SlF.r h1) rfl (by omega) (by omega)) ?_
  refine RG.pv rfl (PV.loadE rfl Ag34 rfl rfl (El.r h1 (getG (by omega)))) ?_
  refine RG.ot rfl (OT.alloc rfl Zr34 fun b5 => ?_)
  refine RG.ot rfl (OT.storeW (vs := [vi _, vi _, vi _, vi _, vi _]) rfl Sz34 rfl rfl (Cl.c rfl) rfl rfl (OneC.c rfl) ?_)
  refine RG.nil ?_
  refine WP.cut1 [] (fun (u : Unit) => True) (fun (u : Unit) => [(4, vi (hashL (sigTo v.marker.xs 7) (ruleL (gd d.rules.xs v.rule.toNat))))]) (fun (u : Unit) => L) ?_ ?_
  refine WP.regionH0 (.q 0 (.q 1 (.q 3 (.q 4 (.q 5 (.q 6 (.q 7 (.q 8 (.q 9 (.q 10 (.q 11 (.q 12 (.b 2 (.l 13 (.l 14 (.q 15 Sch.nil))) 13 (.l 2 (.l 14 (.q 15 Sch.nil)))))))))))))))) (by kernel_rfl) (by kernel_rfl) (by kernel_rfl) rfl ?_
  refine RH.pv rfl (fun _ _ _ _ h => h) (Gh.le_refl _) PickC.pick rfl (PV.field rfl Fo63_1 rfl) ?_
  refine RH.pv rfl (fun _ _ _ _ h => h) (Gh.le_refl _) PickC.pick rfl (PV.load1 rfl Sc28 rfl (Rd.blk rfl)) ?_
  refine RH.pv rfl (fun _ _ _ _ h => h) (Gh.le_refl _) PickC.pick rfl (PV.field rfl Fo34_0 rfl) ?_
  refine RH.pv rfl (fun _ _ _ _ h => h) (Gh.le_refl _) PickC.pick rfl (PV.load1 rfl Sc2 rfl (Rd.blk rfl)) ?_
  refine RH.pv rfl (fun _ _ _ _ h => h) (Gh.le_refl _) PickC.pick rfl (PV.field rfl Fo34_1 rfl) ?_
  refine RH.pv rfl (fun _ _ _ _ h => h) (Gh.le_refl _) PickC.pick rfl (PV.load1 rfl Sc2 rfl (Rd.blk rfl)) ?_
  refine RH.pv rfl (fun _ _ _ _ h => h) (Gh.le_refl _) PickC.pick rfl (PV.field rfl Fo34_2 rfl) ?_
  refine RH.pv rfl (fun _ _ _ _ h => h) (Gh.le_refl _) PickC.pick rfl (PV.load1 rfl Sc2 rfl (Rd.blk rfl)) ?_
  refine RH.pv rfl (fun _ _ _ _ h => h) (Gh.le_refl _) PickC.pick rfl (PV.field rfl Fo34_3 rfl) ?_
  refine RH.pv rfl (fun _ _ _ _ h => h) (Gh.le_refl _) PickC.pick rfl (PV.load1 rfl Sc2 rfl (Rd.blk rfl)) ?_
  refine RH.pv rfl (fun _ _ _ _ h => h) (Gh.le_refl _) PickC.pick rfl (PV.field rfl Fo34_4 rfl) ?_
  refine RH.pv rfl (fun _ _ _ _ h => h) (Gh.le_refl _) PickC.pick rfl (PV.load1 rfl Sc2 rfl (Rd.blk rfl)) ?_
  · refine RH.ot2 rfl rfl rfl rfl  (OT.callF (vs := [_]) rfl En133 rfl (signature_s h2.up hne (by omega) (RIn_all hreg) ⟨Gh.le_refl _, PickC.pick, ?_⟩)) (OT.bslice (F := intT) (els := [_, _, _, _, _]) rfl El83 rfl (by decide) rfl (by decide) ⟨rfl, (Cl.c rfl), ⟨rfl, (Cl.c rfl), ⟨rfl, (Cl.c rfl), ⟨rfl, (Cl.c rfl), ⟨rfl, (Cl.c rfl), trivial⟩⟩⟩⟩⟩ fun v25 => ⟨Gh.le_refl _, PickC.pick, ?_⟩)
    · refine RH.ot rfl rfl (OT.bslice (F := intT) (els := [_, _, _, _, _]) rfl El83 rfl (by decide) rfl (by decide) ⟨rfl, (Cl.c rfl), ⟨rfl, (Cl.c rfl), ⟨rfl, (Cl.c rfl), ⟨rfl, (Cl.c rfl), ⟨rfl, (Cl.c rfl), trivial⟩⟩⟩⟩⟩ fun v25 => ⟨Gh.le_refl _, PickC.pick, ?_⟩)
      refine RH.ot rfl rfl (OT.callF (vs := [_, v25]) rfl En132 rfl (hash_s (l := ruleL (gd d.rules.xs v.rule.toNat)) Rs.o (sigTo_bd _ _) (ruleL_bd hr) ⟨Gh.le_refl _, PickC.pick, ?_⟩))
      refine RH.pv rfl (fun _ _ _ _ h => h) (Gh.le_refl _) PickC.pick rfl (PV.mvI (.inr rfl) rfl) ?_
      refine RH.nil ?_
      exact ⟨rfl, (), trivial, ⟨rfl, trivial⟩, trivial, Cv.p⟩
    · refine RH.ot rfl rfl (OT.callF (vs := [_]) rfl En133 rfl (signature_s h2.up hne (by omega) (RIn_all hreg) ⟨Gh.le_refl _, PickC.pick, ?_⟩))
      refine RH.ot rfl rfl (OT.callF (vs := [_, v25]) rfl En132 rfl (hash_s (l := ruleL (gd d.rules.xs v.rule.toNat)) Rs.o (sigTo_bd _ _) (ruleL_bd hr) ⟨Gh.le_refl _, PickC.pick, ?_⟩))
      refine RH.pv rfl (fun _ _ _ _ h => h) (Gh.le_refl _) PickC.pick rfl (PV.mvI (.inr rfl) rfl) ?_
      refine RH.nil ?_
      exact ⟨rfl, (), trivial, ⟨rfl, trivial⟩, trivial, Cv.p⟩
  rintro _u τ0 -
  refine WP.ret ?_
  exact ⟨_, _, ResV.one rfl rfl, Cv.p, k⟩
theorem l22Sig_s {r : Rule} {v : Value} {g : List Rect} (h2 : Rs G L rectT v g) (hr : validRule r = true) (hreg : isReg g = true) (hne : 0 < g.length) (k : R (vi (sigR r g)) G L) : CallT Tryz.prog 72 #[vT ruleT r, v] G L R := by
  have e := regSig_of hreg hne
  have hs0 : 0 ≤ regSig g ∧ regSig g < 2147483647 := by rw [e]; exact sigTo_bd _ _
  have hb := ruleL_bd hr
  refine CallT.enter (args := _) Tryz.func72 rfl rfl (by kernel_rfl) rfl ?_
  refine WP.seq ?_
  refine WP.region ?_
  refine RG.ot rfl (OT.box (cs := ruleT.enc r) rfl rfl rfl fun b2 => ?_)
  refine RG.pv rfl (PV.mvI (.inr rfl) rfl) ?_
  refine RG.nil ?_
  refine WP.seq ?_
  refine WP.region ?_
  refine RG.pv rfl (PV.move (v := v) rfl rfl) ?_
  refine RG.callF (vs := [v]) rfl rfl En128 rfl (regSig_s h2.up ?_)
  refine RG.pv rfl (PV.mvI (.inr rfl) rfl) ?_
  refine RG.nil ?_
  refine WP.seq ?_
  refine WP.region ?_
  refine RG.pv rfl (PV.mvI (.inl rfl) rfl) ?_
  refine RG.pv rfl (PV.field rfl Fo34_0 rfl) ?_
  refine RG.pv rfl (PV.load1 rfl Sc2 rfl (Rd.blk rfl)) ?_
  refine RG.callF (vs := [_, _]) rfl rfl En129 rfl (l22Hash_s hs0 (by have := hb 0 (by simp [ruleL]); simpa [ruleL, gd] using this) ?_)
  refine RG.pv rfl (PV.mvI (.inr rfl) rfl) ?_
  refine RG.nil ?_
  refine WP.seq ?_
  refine WP.region ?_
  refine RG.pv rfl (PV.mvI (.inl rfl) rfl) ?_
  refine RG.pv rfl (PV.field rfl Fo34_1 rfl) ?_
  refine RG.pv rfl (PV.load1 rfl Sc2 rfl (Rd.blk rfl)) ?_
  refine RG.callF (vs := [_, _]) rfl rfl En129 rfl (l22Hash_s (hashI_bd _ _) (by have := hb 1 (by simp [ruleL]); simpa [ruleL, gd] using this) ?_)
  refine RG.pv rfl (PV.mvI (.inr rfl) rfl) ?_
  refine RG.nil ?_
  refine WP.seq ?_
  refine WP.region ?_
  refine RG.pv rfl (PV.mvI (.inl rfl) rfl) ?_
  refine RG.pv rfl (PV.field rfl Fo34_2 rfl) ?_
  refine RG.pv rfl (PV.load1 rfl Sc2 rfl (Rd.blk rfl)) ?_
  refine RG.callF (vs := [_, _]) rfl rfl En129 rfl (l22Hash_s (hashI_bd _ _) (by have := hb 2 (by simp [ruleL]); simpa [ruleL, gd] using this) ?_)
  refine RG.pv rfl (PV.mvI (.inr rfl) rfl) ?_
  refine RG.nil ?_
  refine WP.seq ?_
  refine WP.region ?_
  refine RG.pv rfl (PV.mvI (.inl rfl) rfl) ?_
  refine RG.pv rfl (PV.field rfl Fo34_3 rfl) ?_
  refine RG.pv rfl (PV.load1 rfl Sc2 rfl (Rd.blk rfl)) ?_
  refine RG.callF (vs := [_, _]) rfl rfl En129 rfl (l22Hash_s (hashI_bd _ _) (by have := hb 3 (by simp [ruleL]); simpa [ruleL, gd] using this) ?_)
  refine RG.pv rfl (PV.mvI (.inr rfl) rfl) ?_
  refine RG.nil ?_
  refine WP.seq ?_
  refine WP.region ?_
  refine RG.pv rfl (PV.mvI (.inl rfl) rfl) ?_
  refine RG.pv rfl (PV.field rfl Fo34_4 rfl) ?_
  refine RG.pv rfl (PV.load1 rfl Sc2 rfl (Rd.blk rfl)) ?_
  refine RG.callF (vs := [_, _]) rfl rfl En129 rfl (l22Hash_s (hashI_bd _ _) (by have := hb 4 (by simp [ruleL]); simpa [ruleL, gd] using this) ?_)
  refine RG.pv rfl (PV.mvI (.inr rfl) rfl) ?_
  refine RG.nil ?_
  refine WP.ret ?_
  exact ⟨_, _, ResV.one rfl rfl, Cv.p, k⟩
noncomputable def violC (rs : List Rule) (v : Int × List Rect) : Bool := deckOk rs && okV v && decide (v.1 < rs.length)
noncomputable def violE (rs : List Rule) (v : Int × List Rect) : Int := bif violC rs v then sigR (gd rs v.1.toNat) v.2 else -1
theorem violE_bad {rs : List Rule} {v : Int × List Rect} (h : (!deckOk rs || !okV v || decide ((rs.length : Int) ≤ v.1)) = true) : violE rs v = -1 := by
  have : violC rs v = false := by
    revert h; unfold violC
    cases deckOk rs <;> cases okV v <;> simp
  rw [violE, this]; rfl
theorem violE_good {rs : List Rule} {v : Int × List Rect} (h : (!deckOk rs || !okV v || decide ((rs.length : Int) ≤ v.1)) = false) : violE rs v = sigR (gd rs v.1.toNat) v.2 ∧ deckOk rs = true ∧ okV v = true ∧ v.1 < rs.length := by
  simp only [Bool.or_eq_false_iff, Bool.not_eq_false', decide_eq_false_iff_not] at h
  obtain ⟨⟨h1, h2⟩, h3⟩ := h
  refine ⟨?_, h1, h2, by omega⟩
  have : violC rs v = true := by rw [violC, h1, h2]; simp; omega
  rw [violE, this]; rfl
theorem violSig_i {d : Deck} {v : Viol} (h1 : Rs G L ruleT d.rules.v d.rules.xs) (h2 : Rs G L rectT v.marker.v v.marker.xs) (k : R (vi (violE d.rules.xs (erV v))) G L) : CallT Tryz.prog 31 #[vT deckT d, vT violT v] G L R := by
  refine CallT.enter (args := _) Tryz.func31 rfl rfl (by kernel_rfl) rfl ?_
  refine WP.seq ?_
  refine WP.region ?_
  refine RG.ot rfl (OT.box (cs := deckT.enc d) rfl rfl rfl fun b2 => ?_)
  refine RG.ot rfl (OT.box (cs := violT.enc v) rfl rfl rfl fun b3 => ?_)
  refine RG.pv rfl (PV.mvI (.inr rfl) rfl) ?_
  refine RG.nil ?_
  refine WP.seq ?_
  refine WP.seq ?_
  refine WP.region ?_
  refine RG.pv rfl (PV.loadW rfl Ag54 rfl rfl) ?_
  refine RG.callF (vs := [_]) rfl rfl En74 rfl (deck_i h1.up ?_)
  refine RG.pv rfl (PV.not rfl rfl) ?_
  refine RG.pv rfl (PV.mvB (.inl rfl) rfl) ?_
  refine RG.gs rfl rfl rfl (fun hp => (PV.loadW rfl Ag63 rfl rfl)) ?_
  refine RG.gsC rfl rfl rfl rfl En75 (fun hp => ⟨_, (acons (gs_t hp) anil), okV_i h2.up ⟨rfl, rfl, rfl⟩⟩) ?_
  refine RG.gs rfl rfl rfl (fun hp => (PV.not rfl (gs_t hp))) ?_
  refine RG.pv rfl (PV.pickO rfl rfl rfl (fun hq => gs_t (geqF hq))) ?_
  refine RG.pv rfl (PV.mvB (.inl rfl) rfl) ?_
  refine RG.gs rfl rfl rfl (fun hp => (PV.field rfl Fo63_0 rfl)) ?_
  refine RG.gs rfl rfl rfl (fun hp => (PV.load1 rfl Sc2 (gs_t hp) (Rd.blk rfl))) ?_
  refine RG.gs rfl rfl rfl (fun hp => (PV.field rfl Fo54_0 rfl)) ?_
  refine RG.gs rfl rfl rfl (fun hp => (PV.load1 rfl Sc52 (gs_t hp) (Rd.blk rfl))) ?_
  refine RG.gs rfl rfl rfl (fun hp => (PV.len rfl Tryz.underlying52 (gs_t hp) (SlF.r h1))) ?_
  refine RG.gs rfl rfl rfl (fun hp => (PV.geq rfl (gs_t hp) (gs_t hp))) ?_
  refine RG.pv rfl (PV.pickO rfl rfl rfl (fun hq => gs_t (geqF hq))) ?_
  refine RG.nil ?_
  refine WP.cond rfl (fun h3 => ?_) (fun h3 => ?_)
  · rw [violE_bad (v := erV v) h3] at k
    refine WP.seq ?_
    refine WP.region ?_
    refine RG.pv rfl (PV.mvI (.inr rfl) rfl) ?_
    refine RG.nil ?_
    refine WP.ret ?_
    exact ⟨_, _, ResV.one rfl rfl, Cv.p, k⟩
  · obtain ⟨e, q1, q2, q3⟩ := violE_good (v := erV v) h3
    obtain ⟨hreg, hne, q4, _⟩ := okV_reg q2
    have hv : 0 ≤ v.rule ∧ v.rule < d.rules.xs.length := ⟨q4, q3⟩
    have hr : validRule (gd d.rules.xs v.rule.toNat) = true := deck_rule q1 (by omega)
    rw [e] at k
    refine WP.skip ?_
    refine WP.seq ?_
    refine WP.region ?_
    refine RG.pv rfl (PV.loadW rfl Ag54 rfl rfl) ?_
    refine RG.pv rfl (PV.loadW rfl Ag63 rfl rfl) ?_
    refine RG.callF (vs := [_, _]) rfl rfl En76 rfl (sigV_i h1.up h2.up hv hr hreg hne ?_)
    refine RG.pv rfl (PV.mvI (.inr rfl) rfl) ?_
    refine RG.nil ?_
    refine WP.ret ?_
    exact ⟨_, _, ResV.one rfl rfl, Cv.p, k⟩
theorem violSig_r {d : Deck} {v : Viol} (h1 : Rs G L ruleT d.rules.v d.rules.xs) (h2 : Rs G L rectT v.marker.v v.marker.xs) (k : R (vi (violE d.rules.xs (erV v))) G L) : CallT Tryz.prog 123 #[vT deckT d, vT violT v] G L R := by
  refine CallT.enter (args := _) Tryz.func123 rfl rfl (by kernel_rfl) rfl ?_
  refine WP.seq ?_
  refine WP.region ?_
  refine RG.ot rfl (OT.box (cs := deckT.enc d) rfl rfl rfl fun b2 => ?_)
  refine RG.ot rfl (OT.box (cs := violT.enc v) rfl rfl rfl fun b3 => ?_)
  refine RG.pv rfl (PV.mvI (.inr rfl) rfl) ?_
  refine RG.nil ?_
  refine WP.seq ?_
  refine WP.seq ?_
  refine WP.region ?_
  refine RG.pv rfl (PV.loadW rfl Ag54 rfl rfl) ?_
  refine RG.callF (vs := [_]) rfl rfl En125 rfl (deck_r h1.up ?_)
  refine RG.pv rfl (PV.not rfl rfl) ?_
  refine RG.pv rfl (PV.mvB (.inl rfl) rfl) ?_
  refine RG.gs rfl rfl rfl (fun hp => (PV.loadW rfl Ag63 rfl rfl)) ?_
  refine RG.gsC rfl rfl rfl rfl En173 (fun hp => ⟨_, (acons (gs_t hp) anil), okV_r h2.up ⟨rfl, rfl, rfl⟩⟩) ?_
  refine RG.gs rfl rfl rfl (fun hp => (PV.not rfl (gs_t hp))) ?_
  refine RG.pv rfl (PV.pickO rfl rfl rfl (fun hq => gs_t (geqF hq))) ?_
  refine RG.pv rfl (PV.mvB (.inl rfl) rfl) ?_
  refine RG.gs rfl rfl rfl (fun hp => (PV.field rfl Fo63_0 rfl)) ?_
  refine RG.gs rfl rfl rfl (fun hp => (PV.load1 rfl Sc2 (gs_t hp) (Rd.blk rfl))) ?_
  refine RG.gs rfl rfl rfl (fun hp => (PV.field rfl Fo54_0 rfl)) ?_
  refine RG.gs rfl rfl rfl (fun hp => (PV.load1 rfl Sc52 (gs_t hp) (Rd.blk rfl))) ?_
  refine RG.gs rfl rfl rfl (fun hp => (PV.len rfl Tryz.underlying52 (gs_t hp) (SlF.r h1))) ?_
  refine RG.gs rfl rfl rfl (fun hp => (PV.geq rfl (gs_t hp) (gs_t hp))) ?_
  refine RG.pv rfl (PV.pickO rfl rfl rfl (fun hq => gs_t (geqF hq))) ?_
  refine RG.nil ?_
  refine WP.cond rfl (fun h3 => ?_) (fun h3 => ?_)
  · rw [violE_bad (v := erV v) h3] at k
    refine WP.seq ?_
    refine WP.region ?_
    refine RG.pv rfl (PV.mvI (.inr rfl) rfl) ?_
    refine RG.nil ?_
    refine WP.ret ?_
    exact ⟨_, _, ResV.one rfl rfl, Cv.p, k⟩
  · obtain ⟨e, q1, q2, q3⟩ := violE_good (v := erV v) h3
    obtain ⟨hreg, hne, q4, _⟩ := okV_reg q2
    have hv : 0 ≤ v.rule ∧ v.rule < d.rules.xs.length := ⟨q4, q3⟩
    have hr : validRule (gd d.rules.xs v.rule.toNat) = true := deck_rule q1 (by omega)
    rw [e] at k
    refine WP.skip ?_
    refine WP.seq ?_
    refine WP.regionQ (by kernel_rfl) (by kernel_rfl) ?_
    refine RQ.pv rfl (PV.field rfl Fo54_0 rfl) ?_
    refine RQ.pv rfl (PV.load1 rfl Sc52 rfl (Rd.blk rfl)) ?_
    refine RQ.pv rfl (PV.field rfl Fo63_0 rfl) ?_
    refine RQ.pv rfl (PV.load1 rfl Sc2 rfl (Rd.blk rfl)) ?_
    refine RQ.pv rfl (PV.idxS (j := v.rule.toNat) rfl Is52 rfl (SlF.r h1) rfl (by omega) (by omega)) ?_
    refine RQ.pv rfl (PV.loadE rfl Ag34 rfl rfl (El.r h1 (getG (by omega)))) ?_
    refine RQ.pv rfl (PV.field rfl Fo63_1 rfl) ?_
    refine RQ.pv rfl (PV.load1 rfl Sc28 rfl (Rd.blk rfl)) ?_
    refine RQ.callF (vs := [_, _]) rfl rfl En72 rfl (l22Sig_s h2.up hr hreg hne ⟨rfl, rfl, rfl⟩) ?_
    refine RQ.pv rfl (PV.mvI (.inr rfl) rfl) ?_
    refine RQ.nil ?_
    refine WP.ret ?_
    exact ⟨_, _, ResV.one rfl rfl, Cv.p, k⟩
end Go.Proofs.YtpjajhjcbcfplaaGreat
namespace Go.Proofs.YtpjajhjcbcfplaaGreat
set_option linter.unusedVariables false
set_option linter.unusedSimpArgs false
open Go
set_option linter.unusedVariables false
def rLt (a b : Rect) : Bool := bif !decide (a.y0 = b.y0) then decide (a.y0 < b.y0) else bif !decide (a.x0 = b.x0) then decide (a.x0 < b.x0) else bif !decide (a.y1 = b.y1) then decide (a.y1 < b.y1) else decide (a.x1 < b.x1)
theorem rLt_iff {a b : Rect} : rLt a b = true ↔ a.y0 < b.y0 ∨ (a.y0 = b.y0 ∧ (a.x0 < b.x0 ∨ (a.x0 = b.x0 ∧ (a.y1 < b.y1 ∨ (a.y1 = b.y1 ∧ a.x1 < b.x1))))) := by
  unfold rLt
  by_cases h1 : a.y0 = b.y0
  · by_cases h2 : a.x0 = b.x0
    · by_cases h3 : a.y1 = b.y1
      · simp [h1, h2, h3]
      · simp [h1, h2, h3]
    · simp [h1, h2]
  · simp [h1]
theorem rLt_trans {a b c : Rect} (h : rLt a b = true) (k : rLt b c = true) : rLt a c = true := by
  rw [rLt_iff] at *; omega
/-- p comes before q in a report -/
def befV (p q : Int × List Rect) : Bool := bif !decide (p.1 = q.1) then decide (p.1 < q.1) else rLt (gd p.2 0) (gd q.2 0) && !meetB p.2 q.2
/-- one of the last k that has q's rule, all between having it, meets q -/
def blkM (xs : List (Int × List Rect)) (q : Int × List Rect) : Nat → Bool
  | 0 => false
  | k + 1 => if (gd xs k).1 = q.1 then meetB (gd xs k).2 q.2 || blkM xs q k else false
def stepV (xs : List (Int × List Rect)) (i : Nat) : Bool := decide (i = 0) || decide ((gd xs (i - 1)).1 < (gd xs i).1) || (decide ((gd xs (i - 1)).1 = (gd xs i).1) && rLt (gd (gd xs (i - 1)).2 0) (gd (gd xs i).2 0) && !blkM xs (gd xs i) i)
theorem blkM_none {xs : List (Int × List Rect)} {q : Int × List Rect} : ∀ {k : Nat}, (∀ j, j < k → (gd xs j).1 = q.1 → meetB (gd xs j).2 q.2 = false) → blkM xs q k = false
  | 0, _ => rfl
  | k + 1, h => by
    rw [blkM]
    split
    · rename_i e; rw [h k (by omega) e, Bool.false_or]; exact blkM_none fun j hj => h j (by omega)
    · rfl
theorem blkM_at {xs : List (Int × List Rect)} {q : Int × List Rect} : ∀ {k : Nat}, blkM xs q k = false → ∀ j, j < k → (∀ m, j ≤ m → m < k → (gd xs m).1 = q.1) → meetB (gd xs j).2 q.2 = false
  | 0, _, j, hj, _ => by omega
  | k + 1, h, j, hj, hm => by
    rw [blkM, if_pos (hm k (by omega) (by omega)), Bool.or_eq_false_iff] at h
    by_cases e : j = k
    · subst e; exact h.1
    · exact blkM_at h.2 j (by omega) fun m h1 h2 => hm m h1 (by omega)
theorem befV_le {p q : Int × List Rect} (h : befV p q = true) : p.1 ≤ q.1 := by
  unfold befV at h
  by_cases e : p.1 = q.1
  · omega
  · simp [e] at h; omega
theorem befV_same {p q : Int × List Rect} (e : p.1 = q.1) : befV p q = (rLt (gd p.2 0) (gd q.2 0) && !meetB p.2 q.2) := by simp [befV, e]
theorem befV_diff {p q : Int × List Rect} (e : ¬ p.1 = q.1) : befV p q = decide (p.1 < q.1) := by simp [befV, e]
/-- each step is in order exactly if every two are -/
theorem rep_iff (xs : List (Int × List Rect)) : ∀ n, (∀ i, i < n → stepV xs i = true) ↔ (∀ i, i < n → ∀ k, k < i → befV (gd xs k) (gd xs i) = true)
  | 0 => ⟨fun _ i hi => by omega, fun _ i hi => by omega⟩
  | n + 1 => by
    have ih := rep_iff xs n
    constructor
    · intro h
      have h0 := ih.1 fun i hi => h i (by omega)
      intro i hi k hk
      by_cases e : i < n
      · exact h0 i e k hk
      · obtain rfl : i = n := by omega
        obtain ⟨m, rfl⟩ : ∃ m, i = m + 1 := ⟨i - 1, by omega⟩
        have hs := h (m + 1) (by omega)
        have hle : ∀ j, j ≤ m → (gd xs j).1 ≤ (gd xs m).1 := fun j hj => by
          by_cases e : j = m
          · rw [e]; omega
          · exact befV_le (h0 m (by omega) j (by omega))
        simp only [stepV, Nat.add_sub_cancel, Bool.or_eq_true, Bool.and_eq_true, decide_eq_true_eq, Bool.not_eq_true'] at hs
        rcases hs with (hs | hs) | ⟨⟨hs, hl⟩, hb⟩
        · omega
        · rw [befV_diff (by have := hle k (by omega); omega), decide_eq_true_eq]
          have := hle k (by omega); omega
        · by_cases er : (gd xs k).1 = (gd xs (m + 1)).1
          · have hall : ∀ j, k ≤ j → j < m + 1 → (gd xs j).1 = (gd xs (m + 1)).1 := fun j h1 h2 => by
              have a1 := hle j (by omega)
              have a2 : (gd xs k).1 ≤ (gd xs j).1 := by
                by_cases e : k = j
                · rw [e]; omega
                · exact befV_le (h0 j (by omega) k (by omega))
              omega
            have hm := blkM_at hb k (by omega) hall
            rw [befV_same er, hm]
            have hr : rLt (gd (gd xs k).2 0) (gd (gd xs (m + 1)).2 0) = true := by
              by_cases e : k = m
              · rw [e]; exact hl
              · have := h0 m (by omega) k (by omega)
                rw [befV_same (by rw [er, hs]), Bool.and_eq_true] at this
                exact rLt_trans this.1 hl
            rw [hr]; rfl
          · rw [befV_diff er, decide_eq_true_eq]
            have := hle k (by omega); omega
    · intro h i hi
      by_cases e : i < n
      · exact ih.2 (fun i hi => h i (by omega)) i e
      · obtain rfl : i = n := by omega
        simp only [stepV, Bool.or_eq_true, Bool.and_eq_true, decide_eq_true_eq, Bool.not_eq_true']
        by_cases e0 : i = 0
        · exact .inl (.inl e0)
        · have hb := h i (by omega) (i - 1) (by omega)
          by_cases er : (gd xs (i - 1)).1 = (gd xs i).1
          · rw [befV_same er, Bool.and_eq_true] at hb
            refine .inr ⟨⟨er, hb.1⟩, blkM_none fun j hj ej => ?_⟩
            have := h i (by omega) j hj
            rw [befV_same ej, Bool.and_eq_true, Bool.not_eq_true'] at this
            exact this.2
          · rw [befV_diff er, decide_eq_true_eq] at hb
            exact .inl (.inr hb)
end Go.Proofs.YtpjajhjcbcfplaaGreat
namespace Go.Proofs.YtpjajhjcbcfplaaGreat
set_option linter.unusedVariables false
set_option linter.unusedSimpArgs false
open Go
set_option maxRecDepth 20000
set_option linter.unusedSimpArgs false
section
variable {P : Program} {n : Nat} {ops : Array Oper} {Q : Post} {σ : Nat → Value} {G G0 : Gh} {L C0 : List Ch} {r : Sch} {oi : Oper}
theorem PV.any {P : Program} {o : Oper} {σ : Nat → Value} {G : Gh} {L : List Ch} {v : Value} (h : False) : PV P o σ G L v := h.elim
/-- a loud operation under a guard, in a drawn region -/
theorem RH.otg {i j t : Nat} {want p : Bool} (hi : ops[i]? = some oi) (hn : oi.guard = some (j, want)) (hj : (ops[j]?).bind (·.dst) = some t) (hb : σ t = .bool p) (h1 : p = want → OT P n oi σ G L fun σ' G' L' => Gh.le G0 G' ∧ Pick C0 L' ∧ RH P n ops G0 C0 r Q σ' G' L')
    (h2 : ¬ p = want → Gh.le G0 G ∧ Pick C0 L ∧ RH P n ops G0 C0 r Q (updo σ oi.dst undef) G L) : RH P n ops G0 C0 (.l i r) Q σ G L :=
  RH.of fun q1 q2 ls a w hb' ha hs => by
    simp only [schB, Bool.and_eq_true, beq_iff_eq] at hb'
    refine wpAnyH_all hb'.1 (by simp) fun x hx => ?_
    obtain rfl : x = i := by simpa using hx
    unfold wpOp
    simp only [hi]
    by_cases e : p = want
    · rw [if_pos (by simp only [Region.wanted, hn, yielded_ag ha hj hb]; simp [e])]
      exact .inl (Oper.wp_mono (fun a' w' ⟨σ', G', L', h3, h4, h5, h6, h7⟩ => ⟨h4.weak h6 h5, h7.run q1 q2 hb'.2 h3 h4⟩) (h1 e (tok_of q2 hi) a w ha hs _))
    · rw [if_neg (by simp only [Region.wanted, hn, yielded_ag ha hj hb]; cases p <;> cases want <;> simp_all)]
      obtain ⟨k1, k2, k3⟩ := h2 e
      exact ⟨hs.weak k2 k1, k3.run q1 q2 hb'.2 (ha.put (tok_of q2 hi) undef) hs⟩
end
variable {G : Gh} {L : List Ch} {R : Value → Gh → List Ch → Prop}
theorem rectLess_s {a b : Rect} (k : R (.bool (rLt a b)) G L) : CallT Tryz.prog 202 #[vrect a, vrect b] G L R := by
  unfold rLt at k
  refine CallT.enter (args := _) Tryz.func202 rfl rfl (by kernel_rfl) rfl ?_
  refine WP.seq ?_
  refine WP.region ?_
  refine RG.ot rfl (OT.box (cs := rectT.enc a) rfl rfl rfl fun b2 => ?_)
  refine RG.ot rfl (OT.box (cs := rectT.enc b) rfl rfl rfl fun b3 => ?_)
  refine RG.pv rfl (PV.mvB (.inr rfl) rfl) ?_
  refine RG.nil ?_
  refine WP.seq ?_
  refine WP.seq ?_
  refine WP.region ?_
  refine RG.pv rfl (PV.field rfl Fo71_1 rfl) ?_
  refine RG.pv rfl (PV.load1 rfl Sc2 rfl (Rd.blk rfl)) ?_
  refine RG.pv rfl (PV.field rfl Fo71_1 rfl) ?_
  refine RG.pv rfl (PV.load1 rfl Sc2 rfl (Rd.blk rfl)) ?_
  refine RG.pv rfl (PV.neq rfl rfl rfl) ?_
  refine RG.nil ?_
  refine WP.cond rfl (fun h1 => ?_) (fun h1 => ?_)
  · rw [h1, cond_true] at k
    refine WP.seq ?_
    refine WP.region ?_
    refine RG.pv rfl (PV.field rfl Fo71_1 rfl) ?_
    refine RG.pv rfl (PV.load1 rfl Sc2 rfl (Rd.blk rfl)) ?_
    refine RG.pv rfl (PV.field rfl Fo71_1 rfl) ?_
    refine RG.pv rfl (PV.load1 rfl Sc2 rfl (Rd.blk rfl)) ?_
    refine RG.pv rfl (PV.lss rfl rfl rfl) ?_
    refine RG.pv rfl (PV.mvB (.inr rfl) rfl) ?_
    refine RG.nil ?_
    refine WP.ret ?_
    exact ⟨_, _, ResV.one rfl rfl, Cv.p, k⟩
  · rw [h1, cond_false] at k
    refine WP.skip ?_
    refine WP.seq ?_
    refine WP.seq ?_
    refine WP.region ?_
    refine RG.pv rfl (PV.field rfl Fo71_0 rfl) ?_
    refine RG.pv rfl (PV.load1 rfl Sc2 rfl (Rd.blk rfl)) ?_
    refine RG.pv rfl (PV.field rfl Fo71_0 rfl) ?_
    refine RG.pv rfl (PV.load1 rfl Sc2 rfl (Rd.blk rfl)) ?_
    refine RG.pv rfl (PV.neq rfl rfl rfl) ?_
    refine RG.nil ?_
    refine WP.cond rfl (fun h2 => ?_) (fun h2 => ?_)
    · rw [h2, cond_true] at k
      refine WP.seq ?_
      refine WP.region ?_
      refine RG.pv rfl (PV.field rfl Fo71_0 rfl) ?_
      refine RG.pv rfl (PV.load1 rfl Sc2 rfl (Rd.blk rfl)) ?_
      refine RG.pv rfl (PV.field rfl Fo71_0 rfl) ?_
      refine RG.pv rfl (PV.load1 rfl Sc2 rfl (Rd.blk rfl)) ?_
      refine RG.pv rfl (PV.lss rfl rfl rfl) ?_
      refine RG.pv rfl (PV.mvB (.inr rfl) rfl) ?_
      refine RG.nil ?_
      refine WP.ret ?_
      exact ⟨_, _, ResV.one rfl rfl, Cv.p, k⟩
    · rw [h2, cond_false] at k
      refine WP.skip ?_
      refine WP.seq ?_
      refine WP.seq ?_
      refine WP.region ?_
      refine RG.pv rfl (PV.field rfl Fo71_3 rfl) ?_
      refine RG.pv rfl (PV.load1 rfl Sc2 rfl (Rd.blk rfl)) ?_
      refine RG.pv rfl (PV.field rfl Fo71_3 rfl) ?_
      refine RG.pv rfl (PV.load1 rfl Sc2 rfl (Rd.blk rfl)) ?_
      refine RG.pv rfl (PV.neq rfl rfl rfl) ?_
      refine RG.nil ?_
      refine WP.cond rfl (fun h3 => ?_) (fun h3 => ?_)
      · rw [h3, cond_true] at k
        refine WP.seq ?_
        refine WP.region ?_
        refine RG.pv rfl (PV.field rfl Fo71_3 rfl) ?_
        refine RG.pv rfl (PV.load1 rfl Sc2 rfl (Rd.blk rfl)) ?_
        refine RG.pv rfl (PV.field rfl Fo71_3 rfl) ?_
        refine RG.pv rfl (PV.load1 rfl Sc2 rfl (Rd.blk rfl)) ?_
        refine RG.pv rfl (PV.lss rfl rfl rfl) ?_
        refine RG.pv rfl (PV.mvB (.inr rfl) rfl) ?_
        refine RG.nil ?_
        refine WP.ret ?_
        exact ⟨_, _, ResV.one rfl rfl, Cv.p, k⟩
      · rw [h3, cond_false] at k
        refine WP.skip ?_
        refine WP.seq ?_
        refine WP.region ?_
        refine RG.pv rfl (PV.field rfl Fo71_2 rfl) ?_
        refine RG.pv rfl (PV.load1 rfl Sc2 rfl (Rd.blk rfl)) ?_
        refine RG.pv rfl (PV.field rfl Fo71_2 rfl) ?_
        refine RG.pv rfl (PV.load1 rfl Sc2 rfl (Rd.blk rfl)) ?_
        refine RG.pv rfl (PV.lss rfl rfl rfl) ?_
        refine RG.pv rfl (PV.mvB (.inr rfl) rfl) ?_
        refine RG.nil ?_
        refine WP.ret ?_
        exact ⟨_, _, ResV.one rfl rfl, Cv.p, k⟩
theorem l04Op_s {v u : Value} {xs ys : List Rect} {op : Int} (h1 : Rs G L rectT v xs) (h2 : Rs G L rectT u ys) (hv1 : validRs xs = true) (hv2 : validRs ys = true) (hop : 0 ≤ op ∧ op ≤ 15) (k : ∀ v', R v' G (osl 71 rectT v' (canon (zipB (opF op) (bits xs) (bits ys))) :: L)) : CallT Tryz.prog 103 #[v, u, vi op] G L R := by
  refine CallT.enter (args := _) Tryz.func103 rfl rfl (by kernel_rfl) rfl ?_
  refine WP.seq ?_
  refine WP.region ?_
  refine RG.pv rfl (PV.asg rfl rfl) ?_
  refine RG.nil ?_
  refine WP.seq ?_
  refine WP.region ?_
  refine RG.pv rfl (PV.move (v := v) rfl rfl) ?_
  refine RG.callF (vs := [v]) rfl rfl En89 rfl (l03Bits_s (Rs.up h1) (fun j hj => valid_get hv1 hj) (fun v8 => ?_))
  refine RG.pv rfl (PV.move (v := u) rfl rfl) ?_
  refine RG.callF (vs := [u]) rfl rfl En89 rfl (l03Bits_s (Rs.up h2) (fun j hj => valid_get hv2 hj) (fun v10 => ?_))
  refine RG.pv rfl (PV.mvI (.inl rfl) rfl) ?_
  refine RG.callF (vs := [v8, v10, _]) rfl rfl En162 rfl (l04Combine_s Rs.o Rs.o (bits_length _) (bits_length _) hop (fun v12 => ?_))
  refine RG.callF (vs := [v12]) rfl rfl En88 rfl (l03Canon_s Rs.o (zipB_len (bits_length _) (bits_length _)) (fun v13 => ?_))
  refine RG.pv rfl (PV.asg (v := v13) rfl rfl) ?_
  refine RG.nil ?_
  refine WP.ret ?_
  exact ⟨_, _, ResV.one rfl rfl, Cv.p, k v13⟩
theorem meet_canon {a b : List Rect} (ha : validRs a = true) (hb : validRs b = true) : decide (((canon (zipB (opF 8) (bits a) (bits b))).length : Int) = 0) = !meetB a b := by
  have hl : (zipB (opF 8) (bits a) (bits b)).length = 6400 := zipB_len (bits_length _) (bits_length _)
  have hg : ∀ y x, y < 80 → x < 80 → gb (zipB (opF 8) (bits a) (bits b)) y x = (gb (bits a) y x && gb (bits b) y x) := fun y x hy hx => by
    rw [gb_zip (bits_length _) (bits_length _) hy hx, opF_and]
  rw [Bool.eq_iff_iff, decide_eq_true_iff, Bool.not_eq_true', ← Bool.not_eq_true, meetB_iff ha hb]
  constructor
  · rintro h0 ⟨y, x, hy, hx, h1, h2⟩
    have hb2 : gb (bits (canon (zipB (opF 8) (bits a) (bits b)))) y x = true := by rw [bits_canon hl, hg y x hy hx, h1, h2]; rfl
    obtain ⟨r, hr, _⟩ := (gb_bits_iff hy hx).1 hb2
    have := List.length_pos_of_mem hr
    omega
  · intro hn
    rcases Nat.eq_zero_or_pos (canon (zipB (opF 8) (bits a) (bits b))).length with e | e
    · omega
    · exfalso
      have hm : gd (canon (zipB (opF 8) (bits a) (bits b))) 0 ∈ canon (zipB (opF 8) (bits a) (bits b)) := by rw [gd_eq e]; exact List.getElem_mem _
      obtain ⟨y, x, hy, hx, hi⟩ := valid_cell (valid_mem (isReg_valid (isReg_canon hl)) hm)
      have hb2 := (gb_bits_iff hy hx).2 ⟨_, hm, hi⟩
      rw [bits_canon hl, hg y x hy hx, Bool.and_eq_true] at hb2
      exact hn ⟨y, x, hy, hx, hb2.1, hb2.2⟩
theorem before_s {p q : Viol} (h1 : Rs G L rectT p.marker.v p.marker.xs) (h2 : Rs G L rectT q.marker.v q.marker.xs) (hp : okV (erV p) = true) (hq : okV (erV q) = true) (k : R (.bool (befV (erV p) (erV q))) G L) : CallT Tryz.prog 174 #[vT violT p, vT violT q] G L R := by
  obtain ⟨hp1, hp2, _⟩ := okV_reg hp
  obtain ⟨hq1, hq2, _⟩ := okV_reg hq
  have hp1 : isReg p.marker.xs = true := hp1
  have hq1 : isReg q.marker.xs = true := hq1
  have hp2 : 0 < p.marker.xs.length := hp2
  have hq2 : 0 < q.marker.xs.length := hq2
  have hv1 := isReg_valid hp1
  have hv2 := isReg_valid hq1
  have hmc := meet_canon hv1 hv2
  cases g : rLt (gd p.marker.xs 0) (gd q.marker.xs 0)
  · skip
    refine CallT.enter (args := _) Tryz.func174 rfl rfl (by kernel_rfl) rfl ?_
    refine WP.seq ?_
    refine WP.region ?_
    refine RG.ot rfl (OT.box (cs := violT.enc p) rfl rfl rfl fun b2 => ?_)
    refine RG.ot rfl (OT.box (cs := violT.enc q) rfl rfl rfl fun b3 => ?_)
    refine RG.pv rfl (PV.mvB (.inr rfl) rfl) ?_
    refine RG.nil ?_
    refine WP.seq ?_
    refine WP.seq ?_
    refine WP.region ?_
    refine RG.pv rfl (PV.field rfl Fo63_0 rfl) ?_
    refine RG.pv rfl (PV.load1 rfl Sc2 rfl (Rd.blk rfl)) ?_
    refine RG.pv rfl (PV.field rfl Fo63_0 rfl) ?_
    refine RG.pv rfl (PV.load1 rfl Sc2 rfl (Rd.blk rfl)) ?_
    refine RG.pv rfl (PV.neq rfl rfl rfl) ?_
    refine RG.nil ?_
    refine WP.cond rfl (fun h3 => ?_) (fun h3 => ?_)
    · have e : befV (erV p) (erV q) = decide (p.rule < q.rule) := befV_diff (by simpa [erV] using h3)
      rw [e] at k
      refine WP.seq ?_
      refine WP.region ?_
      refine RG.pv rfl (PV.field rfl Fo63_0 rfl) ?_
      refine RG.pv rfl (PV.load1 rfl Sc2 rfl (Rd.blk rfl)) ?_
      refine RG.pv rfl (PV.field rfl Fo63_0 rfl) ?_
      refine RG.pv rfl (PV.load1 rfl Sc2 rfl (Rd.blk rfl)) ?_
      refine RG.pv rfl (PV.lss rfl rfl rfl) ?_
      refine RG.pv rfl (PV.mvB (.inr rfl) rfl) ?_
      refine RG.nil ?_
      refine WP.ret ?_
      exact ⟨_, _, ResV.one rfl rfl, Cv.p, k⟩
    · have e : befV (erV p) (erV q) = (rLt (gd p.marker.xs 0) (gd q.marker.xs 0) && !meetB p.marker.xs q.marker.xs) := befV_same (by simpa [erV] using h3)
      rw [e] at k
      refine WP.skip ?_
      refine WP.seq ?_
      refine WP.regionH0 (.q 0 (.q 1 (.q 2 (.q 3 (.q 4 (.q 5 (.q 6 (.q 7 (.l 8 (.q 9 (.q 10 (.q 11 (.q 12 (.q 13 (.l 14 (.q 15 (.q 16 (.q 17 (.q 18 Sch.nil))))))))))))))))))) (by kernel_rfl) (by kernel_rfl) (by kernel_rfl) rfl ?_
      refine RH.pv rfl (fun _ _ _ _ h => h) (Gh.le_refl _) PickC.pick rfl (PV.field rfl Fo63_1 rfl) ?_
      refine RH.pv rfl (fun _ _ _ _ h => h) (Gh.le_refl _) PickC.pick rfl (PV.load1 rfl Sc28 rfl (Rd.blk rfl)) ?_
      refine RH.pv rfl (fun _ _ _ _ h => h) (Gh.le_refl _) PickC.pick rfl (PV.idxS (j := 0) rfl Is28 rfl (SlF.r h1) rfl (by omega) (by omega)) ?_
      refine RH.pv rfl (fun _ _ _ _ h => h) (Gh.le_refl _) PickC.pick rfl (PV.loadE rfl Ag71 rfl rfl (El.r h1 (getG (by omega)))) ?_
      refine RH.pv rfl (fun _ _ _ _ h => h) (Gh.le_refl _) PickC.pick rfl (PV.field rfl Fo63_1 rfl) ?_
      refine RH.pv rfl (fun _ _ _ _ h => h) (Gh.le_refl _) PickC.pick rfl (PV.load1 rfl Sc28 rfl (Rd.blk rfl)) ?_
      refine RH.pv rfl (fun _ _ _ _ h => h) (Gh.le_refl _) PickC.pick rfl (PV.idxS (j := 0) rfl Is28 rfl (SlF.r h2) rfl (by omega) (by omega)) ?_
      refine RH.pv rfl (fun _ _ _ _ h => h) (Gh.le_refl _) PickC.pick rfl (PV.loadE rfl Ag71 rfl rfl (El.r h2 (getG (by omega)))) ?_
      refine RH.ot rfl rfl (OT.callF (vs := [_, _]) rfl En202 rfl (rectLess_s ⟨Gh.le_refl _, PickC.pick, ?_⟩))
      refine RH.pv rfl (fun _ _ _ _ h => h) (Gh.le_refl _) PickC.pick rfl (PV.mvB (.inl rfl) rfl) ?_
      refine RH.gs rfl (fun _ _ _ _ h => h) (Gh.le_refl _) PickC.pick rfl rfl rfl (fun hp => (PV.field rfl Fo63_1 rfl)) ?_
      refine RH.gs rfl (fun _ _ _ _ h => h) (Gh.le_refl _) PickC.pick rfl rfl rfl (fun hp => (PV.load1 rfl Sc28 (gs_t hp) (Rd.blk rfl))) ?_
      refine RH.gs rfl (fun _ _ _ _ h => h) (Gh.le_refl _) PickC.pick rfl rfl rfl (fun hp => (PV.field rfl Fo63_1 rfl)) ?_
      refine RH.gs rfl (fun _ _ _ _ h => h) (Gh.le_refl _) PickC.pick rfl rfl rfl (fun hp => (PV.load1 rfl Sc28 (gs_t hp) (Rd.blk rfl))) ?_
      refine RH.otg rfl rfl rfl rfl (fun hh => absurd (hh.symm.trans g) (by decide)) (fun _ => ⟨Gh.le_refl _, PickC.pick, ?_⟩)
      refine RH.gs rfl (fun _ _ _ _ h => h) (Gh.le_refl _) PickC.pick rfl rfl rfl (fun hp => (PV.any (v := vi 0) (absurd (g.symm.trans (beq_iff_eq.1 hp)) (by decide)))) ?_
      refine RH.gs rfl (fun _ _ _ _ h => h) (Gh.le_refl _) PickC.pick rfl rfl rfl (fun hp => (PV.any (v := .bool false) (absurd (g.symm.trans (beq_iff_eq.1 hp)) (by decide)))) ?_
      refine RH.pv rfl (fun _ _ _ _ h => h) (Gh.le_refl _) PickC.pick rfl (PV.pickA rfl rfl (fun hq => gs_t (geqT hq)) rfl) ?_
      refine RH.pv rfl (fun _ _ _ _ h => h) (Gh.le_refl _) PickC.pick rfl (PV.mvB (.inr rfl) rfl) ?_
      refine RH.nil ?_
      refine WP.ret ?_
      rw [show (rLt (gd p.marker.xs 0) (gd q.marker.xs 0) && !meetB p.marker.xs q.marker.xs) = (rLt (gd p.marker.xs 0) (gd q.marker.xs 0) && false) by rw [g]; rfl] at k
      exact ⟨_, _, ResV.one rfl rfl, Cv.p, k⟩
  · skip
    refine CallT.enter (args := _) Tryz.func174 rfl rfl (by kernel_rfl) rfl ?_
    refine WP.seq ?_
    refine WP.region ?_
    refine RG.ot rfl (OT.box (cs := violT.enc p) rfl rfl rfl fun b2 => ?_)
    refine RG.ot rfl (OT.box (cs := violT.enc q) rfl rfl rfl fun b3 => ?_)
    refine RG.pv rfl (PV.mvB (.inr rfl) rfl) ?_
    refine RG.nil ?_
    refine WP.seq ?_
    refine WP.seq ?_
    refine WP.region ?_
    refine RG.pv rfl (PV.field rfl Fo63_0 rfl) ?_
    refine RG.pv rfl (PV.load1 rfl Sc2 rfl (Rd.blk rfl)) ?_
    refine RG.pv rfl (PV.field rfl Fo63_0 rfl) ?_
    refine RG.pv rfl (PV.load1 rfl Sc2 rfl (Rd.blk rfl)) ?_
    refine RG.pv rfl (PV.neq rfl rfl rfl) ?_
    refine RG.nil ?_
    refine WP.cond rfl (fun h3 => ?_) (fun h3 => ?_)
    · have e : befV (erV p) (erV q) = decide (p.rule < q.rule) := befV_diff (by simpa [erV] using h3)
      rw [e] at k
      refine WP.seq ?_
      refine WP.region ?_
      refine RG.pv rfl (PV.field rfl Fo63_0 rfl) ?_
      refine RG.pv rfl (PV.load1 rfl Sc2 rfl (Rd.blk rfl)) ?_
      refine RG.pv rfl (PV.field rfl Fo63_0 rfl) ?_
      refine RG.pv rfl (PV.load1 rfl Sc2 rfl (Rd.blk rfl)) ?_
      refine RG.pv rfl (PV.lss rfl rfl rfl) ?_
      refine RG.pv rfl (PV.mvB (.inr rfl) rfl) ?_
      refine RG.nil ?_
      refine WP.ret ?_
      exact ⟨_, _, ResV.one rfl rfl, Cv.p, k⟩
    · have e : befV (erV p) (erV q) = (rLt (gd p.marker.xs 0) (gd q.marker.xs 0) && !meetB p.marker.xs q.marker.xs) := befV_same (by simpa [erV] using h3)
      rw [e] at k
      refine WP.skip ?_
      refine WP.seq ?_
      refine WP.regionH0 (.q 0 (.q 1 (.q 2 (.q 3 (.q 4 (.q 5 (.q 6 (.q 7 (.l 8 (.q 9 (.q 10 (.q 11 (.q 12 (.q 13 (.l 14 (.q 15 (.q 16 (.q 17 (.q 18 Sch.nil))))))))))))))))))) (by kernel_rfl) (by kernel_rfl) (by kernel_rfl) rfl ?_
      refine RH.pv rfl (fun _ _ _ _ h => h) (Gh.le_refl _) PickC.pick rfl (PV.field rfl Fo63_1 rfl) ?_
      refine RH.pv rfl (fun _ _ _ _ h => h) (Gh.le_refl _) PickC.pick rfl (PV.load1 rfl Sc28 rfl (Rd.blk rfl)) ?_
      refine RH.pv rfl (fun _ _ _ _ h => h) (Gh.le_refl _) PickC.pick rfl (PV.idxS (j := 0) rfl Is28 rfl (SlF.r h1) rfl (by omega) (by omega)) ?_
      refine RH.pv rfl (fun _ _ _ _ h => h) (Gh.le_refl _) PickC.pick rfl (PV.loadE rfl Ag71 rfl rfl (El.r h1 (getG (by omega)))) ?_
      refine RH.pv rfl (fun _ _ _ _ h => h) (Gh.le_refl _) PickC.pick rfl (PV.field rfl Fo63_1 rfl) ?_
      refine RH.pv rfl (fun _ _ _ _ h => h) (Gh.le_refl _) PickC.pick rfl (PV.load1 rfl Sc28 rfl (Rd.blk rfl)) ?_
      refine RH.pv rfl (fun _ _ _ _ h => h) (Gh.le_refl _) PickC.pick rfl (PV.idxS (j := 0) rfl Is28 rfl (SlF.r h2) rfl (by omega) (by omega)) ?_
      refine RH.pv rfl (fun _ _ _ _ h => h) (Gh.le_refl _) PickC.pick rfl (PV.loadE rfl Ag71 rfl rfl (El.r h2 (getG (by omega)))) ?_
      refine RH.ot rfl rfl (OT.callF (vs := [_, _]) rfl En202 rfl (rectLess_s ⟨Gh.le_refl _, PickC.pick, ?_⟩))
      refine RH.pv rfl (fun _ _ _ _ h => h) (Gh.le_refl _) PickC.pick rfl (PV.mvB (.inl rfl) rfl) ?_
      refine RH.gs rfl (fun _ _ _ _ h => h) (Gh.le_refl _) PickC.pick rfl rfl rfl (fun hp => (PV.field rfl Fo63_1 rfl)) ?_
      refine RH.gs rfl (fun _ _ _ _ h => h) (Gh.le_refl _) PickC.pick rfl rfl rfl (fun hp => (PV.load1 rfl Sc28 (gs_t hp) (Rd.blk rfl))) ?_
      refine RH.gs rfl (fun _ _ _ _ h => h) (Gh.le_refl _) PickC.pick rfl rfl rfl (fun hp => (PV.field rfl Fo63_1 rfl)) ?_
      refine RH.gs rfl (fun _ _ _ _ h => h) (Gh.le_refl _) PickC.pick rfl rfl rfl (fun hp => (PV.load1 rfl Sc28 (gs_t hp) (Rd.blk rfl))) ?_
      refine RH.otg rfl rfl rfl rfl (fun hh => have hp := beq_iff_eq.2 hh; OT.callF (vs := [_, _, _]) rfl En103 (acons (gs_t hp) (acons (gs_t hp) (acons rfl anil))) (l04Op_s h1.up h2.up hv1 hv2 (by omega) (fun v29 => ⟨Gh.le_refl _, PickC.pick, ?_⟩))) (fun hh => absurd g hh)
      refine RH.up1 ?_
      refine RH.gs rfl (fun _ _ _ _ h => h) (Gh.le_refl _) PickC.pick rfl rfl rfl (fun hp => (PV.len (v := v29) rfl Tryz.underlying28 rfl SlF.o)) ?_
      refine RH.gs rfl (fun _ _ _ _ h => h) (Gh.le_refl _) PickC.pick rfl rfl rfl (fun hp => (PV.eql rfl (gs_t hp) rfl)) ?_
      refine RH.pv rfl (fun _ _ _ _ h => h) (Gh.le_refl _) PickC.pick rfl (PV.pickA rfl rfl (fun hq => gs_t (geqT hq)) rfl) ?_
      refine RH.pv rfl (fun _ _ _ _ h => h) (Gh.le_refl _) PickC.pick rfl (PV.mvB (.inr rfl) rfl) ?_
      refine RH.nil ?_
      refine WP.ret ?_
      rw [← hmc] at k
      exact ⟨_, _, ResV.one rfl rfl, Cv.p, k⟩
end Go.Proofs.YtpjajhjcbcfplaaGreat
namespace Go.Proofs.YtpjajhjcbcfplaaGreat
set_option linter.unusedVariables false
set_option linter.unusedSimpArgs false
open Go
set_option maxRecDepth 20000
set_option linter.unusedSimpArgs false
variable {G : Gh} {L : List Ch} {R : Value → Gh → List Ch → Prop}
theorem cmpR_ge (a b : Rect) : decide (0 ≤ cmpR a b) = !rLt a b := by
  rw [Bool.eq_iff_iff, decide_eq_true_iff, Bool.not_eq_true', ← Bool.not_eq_true, rLt_iff]
  simp only [cmpR, orI, cmpI]
  repeat' split
  all_goals omega
noncomputable def repAt (E : List (Int × List Rect)) (i : Nat) : Bool := okV (gd E i) && stepV E i
noncomputable def repOk (E : List (Int × List Rect)) : Bool := decide (E.length ≤ 256) && decide (∀ i, i < E.length → repAt E i = true)
theorem rep_false {E : List (Int × List Rect)} {i : Nat} (h : i < E.length) (e : repAt E i = false) : repOk E = false := by
  simp only [repOk, Bool.and_eq_false_iff, decide_eq_false_iff_not]
  exact .inr fun hh => by rw [hh i h] at e; cases e
theorem rep_all {E : List (Int × List Rect)} (hl : E.length ≤ 256) (h : ∀ i, i < E.length → repAt E i = true) : repOk E = true := by
  simp only [repOk, decide_eq_true h, Bool.and_true, decide_eq_true_eq]; exact hl
theorem rep_okV {E : List (Int × List Rect)} (h : repOk E = true) {i : Nat} (hi : i < E.length) : okV (gd E i) = true := by
  simp only [repOk, Bool.and_eq_true, decide_eq_true_eq] at h
  have := h.2 i hi; simp only [repAt, Bool.and_eq_true] at this; exact this.1
theorem rep_len {E : List (Int × List Rect)} (h : repOk E = true) : E.length ≤ 256 := by
  simp only [repOk, Bool.and_eq_true, decide_eq_true_eq] at h; exact h.1
theorem rep_pairs {E : List (Int × List Rect)} (hl : E.length ≤ 256) (h : ∀ i, i < E.length → okV (gd E i) = true ∧ ∀ j, j < i → befV (gd E j) (gd E i) = true) : repOk E = true := by
  have := (rep_iff E E.length).2 fun i hi => (h i hi).2
  exact rep_all hl fun i hi => by rw [repAt, (h i hi).1, this i hi]; rfl
theorem rep_pair_false {E : List (Int × List Rect)} {i j : Nat} (hi : i < E.length) (hj : j < i) (e : befV (gd E j) (gd E i) = false) : repOk E = false := by
  cases h : repOk E with
  | false => rfl
  | true =>
    simp only [repOk, Bool.and_eq_true, decide_eq_true_eq] at h
    have := (rep_iff E E.length).1 (fun i hi => by have := h.2 i hi; simp only [repAt, Bool.and_eq_true] at this; exact this.2) i hi j hj
    rw [e] at this; cases this
theorem report_r {v : Value} {xs : List Viol} (h1 : Rs G L violT v xs) (hd : RsE G L rectT (mks xs)) (k : R (.bool (repOk (erVs xs))) G L) : CallT Tryz.prog 126 #[v] G L R := by
  refine CallT.bd h1 fun hb => ?_
  have hel := erVs_len xs
  refine CallT.enter (args := _) Tryz.func126 rfl rfl (by kernel_rfl) rfl ?_
  refine WP.seq ?_
  refine WP.region ?_
  refine RG.pv rfl (PV.mvB (.inr rfl) rfl) ?_
  refine RG.nil ?_
  refine WP.seq ?_
  refine WP.seq ?_
  refine WP.region ?_
  refine RG.pv rfl (PV.move (v := v) rfl rfl) ?_
  refine RG.pv rfl (PV.len (v := v) rfl Tryz.underlying55 rfl (SlF.r h1)) ?_
  refine RG.pv rfl (PV.gtr rfl rfl rfl) ?_
  refine RG.nil ?_
  refine WP.cond rfl (fun h2 => ?_) (fun h2 => ?_)
  · have h2 := of_decide_eq_true h2
    have e : repOk (erVs xs) = false := by
      have : ¬ (erVs xs).length ≤ 256 := by omega
      simp [repOk, this]
    rw [e] at k
    refine WP.seq ?_
    refine WP.region ?_
    refine RG.pv rfl (PV.mvB (.inr rfl) rfl) ?_
    refine RG.nil ?_
    refine WP.ret ?_
    exact ⟨_, _, ResV.one rfl rfl, Cv.p, k⟩
  · have h2 := of_decide_eq_false h2
    refine WP.skip ?_
    refine WP.seq ?_
    refine WP.seq ?_
    refine WP.region ?_
    refine RG.pv rfl (PV.mvI (.inr rfl) rfl) ?_
    refine RG.nil ?_
    refine WP.block ?_
    refine WP.loop1 [0] (fun i => i ≤ xs.length ∧ ∀ j, j < i → okV (gd (erVs xs) j) = true ∧ ∀ m, m < j → befV (gd (erVs xs) m) (gd (erVs xs) j) = true) (fun i => [(3, vi i)]) (fun i => L) (fun i => xs.length - i) 0 ⟨by omega, fun j h => by omega⟩ ⟨rfl, trivial⟩ Cv.p ?_
    rintro i τ ⟨hi, hj⟩
    refine WP.seq ?_
    refine WP.seq ?_
    refine WP.region ?_
    refine RG.pv rfl (PV.mvI (.inl rfl) rfl) ?_
    refine RG.pv rfl (PV.move (v := v) rfl rfl) ?_
    refine RG.pv rfl (PV.len (v := v) rfl Tryz.underlying55 rfl (SlF.r h1)) ?_
    refine RG.pv rfl (PV.lss rfl rfl rfl) ?_
    refine RG.nil ?_
    refine WP.cond rfl (fun h3 => ?_) (fun h3 => ?_)
    · have h3 := of_decide_eq_true h3
      have hei := erVs_gd (xs := xs) (i := i) (by omega)
      refine WP.skip ?_
      refine WP.seq ?_
      refine WP.block ?_
      refine WP.seq ?_
      refine WP.seq ?_
      refine WP.region ?_
      refine RG.pv rfl (PV.move (v := v) rfl rfl) ?_
      refine RG.pv rfl (PV.mvI (.inl rfl) rfl) ?_
      refine RG.pv rfl (PV.idxS (v := v) rfl Is55 rfl (SlF.r h1) rfl rfl (by omega)) ?_
      refine RG.pv rfl (PV.loadE rfl Ag63 rfl rfl (El.r h1 (getG (by omega)))) ?_
      refine RG.callF (vs := [_]) rfl rfl En173 rfl (okV_r (hd.marker (by omega)).up ?_)
      refine RG.pv rfl (PV.not rfl rfl) ?_
      refine RG.nil ?_
      refine WP.cond rfl (fun h4 => ?_) (fun h4 => ?_)
      · have e : repAt (erVs xs) i = false := by
          have : okV (erV (gd xs i)) = false := by simpa using h4
          rw [repAt, hei, this]; rfl
        rw [rep_false (by omega) e] at k
        refine WP.seq ?_
        refine WP.region ?_
        refine RG.pv rfl (PV.mvB (.inr rfl) rfl) ?_
        refine RG.nil ?_
        refine WP.ret ?_
        exact ⟨_, _, ResV.one rfl rfl, Cv.p, k⟩
      · have hok : okV (gd (erVs xs) i) = true := by rw [hei]; simpa using h4
        have hokj : ∀ j, j < i → okV (gd (erVs xs) j) = true := fun j h => (hj j h).1
        refine WP.skip ?_
        refine WP.seq ?_
        refine WP.region ?_
        refine RG.pv rfl (PV.mvI (.inr rfl) rfl) ?_
        refine RG.nil ?_
        refine WP.block ?_
        refine WP.loop1 [0, 3] (fun j => j ≤ i ∧ ∀ m, m < j → befV (gd (erVs xs) m) (gd (erVs xs) i) = true) (fun j => [(4, vi j)]) (fun j => L) (fun j => i - j) 0 ⟨by omega, fun m h => by omega⟩ ⟨rfl, trivial⟩ Cv.p ?_
        rintro j τ1 ⟨hji, hjb⟩
        refine WP.seq ?_
        refine WP.seq ?_
        refine WP.region ?_
        refine RG.pv rfl (PV.mvI (.inl rfl) rfl) ?_
        refine RG.pv rfl (PV.mvI (.inl rfl) rfl) ?_
        refine RG.pv rfl (PV.lss rfl rfl rfl) ?_
        refine RG.nil ?_
        refine WP.cond rfl (fun h5 => ?_) (fun h5 => ?_)
        · have h5 := of_decide_eq_true h5
          have hej := erVs_gd (xs := xs) (i := j) (by omega)
          refine WP.skip ?_
          refine WP.seq ?_
          refine WP.block ?_
          refine WP.seq ?_
          refine WP.regionQ (by kernel_rfl) (by kernel_rfl) ?_
          refine RQ.pv rfl (PV.move (v := v) rfl rfl) ?_
          refine RQ.pv rfl (PV.mvI (.inl rfl) rfl) ?_
          refine RQ.pv rfl (PV.idxS (v := v) rfl Is55 rfl (SlF.r h1) rfl rfl (by omega)) ?_
          refine RQ.pv rfl (PV.loadE rfl Ag63 rfl rfl (El.r h1 (getG (by omega)))) ?_
          refine RQ.pv rfl (PV.move (v := v) rfl rfl) ?_
          refine RQ.pv rfl (PV.mvI (.inl rfl) rfl) ?_
          refine RQ.pv rfl (PV.idxS (v := v) rfl Is55 rfl (SlF.r h1) rfl rfl (by omega)) ?_
          refine RQ.pv rfl (PV.loadE rfl Ag63 rfl rfl (El.r h1 (getG (by omega)))) ?_
          refine RQ.callF (vs := [_, _]) rfl rfl En174 rfl (before_s (hd.marker (by omega)).up (hd.marker (by omega)).up (by have := hokj j (by omega); rwa [erVs_gd (by omega)] at this) (by rw [erVs_gd (by omega)] at hok; exact hok) ⟨rfl, rfl, rfl⟩) ?_
          refine RQ.pv rfl (PV.not rfl rfl) ?_
          refine RQ.nil ?_
          refine WP.cond rfl (fun h6 => ?_) (fun h6 => ?_)
          · have e : befV (gd (erVs xs) j) (gd (erVs xs) i) = false := by rw [hei, hej]; simpa using h6
            rw [rep_pair_false (by omega) (by omega) e] at k
            refine WP.seq ?_
            refine WP.region ?_
            refine RG.pv rfl (PV.mvB (.inr rfl) rfl) ?_
            refine RG.nil ?_
            refine WP.ret ?_
            exact ⟨_, _, ResV.one rfl rfl, Cv.p, k⟩
          · have hjb' : ∀ m, m < j + 1 → befV (gd (erVs xs) m) (gd (erVs xs) i) = true := fun m h => by
              by_cases c : m = j
              · rw [c, hei, hej]; simpa using h6
              · exact hjb m (by omega)
            refine WP.skip ?_
            refine WP.region ?_
            refine RG.pv rfl (PV.mvI (.inl rfl) rfl) ?_
            refine RG.pv rfl (PV.add rfl rfl rfl (by omega)) ?_
            refine RG.pv rfl (PV.mvI (.inr rfl) rfl) ?_
            refine RG.nil ?_
            exact ⟨rfl, j + 1, ⟨by omega, hjb'⟩, ⟨rfl, trivial⟩, ⟨rfl, rfl, trivial⟩, Cv.p, by omega⟩
        · have h5 := of_decide_eq_false h5
          have hj' : ∀ j, j < i + 1 → okV (gd (erVs xs) j) = true ∧ ∀ m, m < j → befV (gd (erVs xs) m) (gd (erVs xs) j) = true := fun m h => by
            by_cases c : m = i
            · rw [c]; exact ⟨hok, fun q hq => hjb q (by omega)⟩
            · exact hj m (by omega)
          refine WP.exit ?_
          refine WP.region ?_
          refine RG.pv rfl (PV.mvI (.inl rfl) rfl) ?_
          refine RG.pv rfl (PV.add rfl rfl rfl (by omega)) ?_
          refine RG.pv rfl (PV.mvI (.inr rfl) rfl) ?_
          refine RG.nil ?_
          exact ⟨rfl, i + 1, ⟨by omega, hj'⟩, ⟨rfl, trivial⟩, ⟨rfl, trivial⟩, Cv.p, by omega⟩
    · have h3 := of_decide_eq_false h3
      rw [rep_pairs (by omega) (fun i hi => hj i (by omega))] at k
      refine WP.exit ?_
      refine WP.seq ?_
      refine WP.region ?_
      refine RG.pv rfl (PV.mvB (.inr rfl) rfl) ?_
      refine RG.nil ?_
      refine WP.ret ?_
      exact ⟨_, _, ResV.one rfl rfl, Cv.p, k⟩
theorem blkM_stop {E : List (Int × List Rect)} {q : Int × List Rect} {k : Nat} (h : ¬ (gd E k).1 = q.1) : blkM E q (k + 1) = false := by rw [blkM, if_neg h]
theorem blkM_go {E : List (Int × List Rect)} {q : Int × List Rect} {k : Nat} (h : (gd E k).1 = q.1) : blkM E q (k + 1) = (meetB (gd E k).2 q.2 || blkM E q k) := by rw [blkM, if_pos h]
theorem report_i {v : Value} {xs : List Viol} (h1 : Rs G L violT v xs) (hd : RsE G L rectT (mks xs)) (k : R (.bool (repOk (erVs xs))) G L) : CallT Tryz.prog 139 #[v] G L R := by
  refine CallT.bd h1 fun hb => ?_
  have hel := erVs_len xs
  refine CallT.enter (args := _) Tryz.func139 rfl rfl (by kernel_rfl) rfl ?_
  refine WP.seq ?_
  refine WP.region ?_
  refine RG.pv rfl (PV.mvB (.inr rfl) rfl) ?_
  refine RG.nil ?_
  refine WP.seq ?_
  refine WP.seq ?_
  refine WP.region ?_
  refine RG.pv rfl (PV.move (v := v) rfl rfl) ?_
  refine RG.pv rfl (PV.len (v := v) rfl Tryz.underlying55 rfl (SlF.r h1)) ?_
  refine RG.pv rfl (PV.gtr rfl rfl rfl) ?_
  refine RG.nil ?_
  refine WP.cond rfl (fun h2 => ?_) (fun h2 => ?_)
  · have h2 := of_decide_eq_true h2
    have e : repOk (erVs xs) = false := by
      have : ¬ (erVs xs).length ≤ 256 := by omega
      simp [repOk, this]
    rw [e] at k
    refine WP.seq ?_
    refine WP.region ?_
    refine RG.pv rfl (PV.mvB (.inr rfl) rfl) ?_
    refine RG.nil ?_
    refine WP.ret ?_
    exact ⟨_, _, ResV.one rfl rfl, Cv.p, k⟩
  · have h2 := of_decide_eq_false h2
    refine WP.skip ?_
    refine WP.seq ?_
    refine WP.seq ?_
    refine WP.region ?_
    refine RG.pv rfl (PV.move (v := v) rfl rfl) ?_
    refine RG.pv rfl (PV.len (v := v) rfl Tryz.underlying55 rfl (SlF.r h1)) ?_
    refine RG.pv rfl (PV.mvI (.inl rfl) rfl) ?_
    refine RG.nil ?_
    refine WP.block ?_
    refine WP.loop1 [0, 9, 10] (fun i => i ≤ xs.length ∧ ∀ j, j < i → repAt (erVs xs) j = true) (fun i => [(11, vi i)]) (fun i => L) (fun i => xs.length - i) 0 ⟨by omega, fun j h => by omega⟩ ⟨rfl, trivial⟩ Cv.p ?_
    rintro i τ ⟨hi, hj⟩
    refine WP.seq ?_
    refine WP.region ?_
    refine RG.pv rfl (PV.lss rfl rfl rfl) ?_
    refine RG.nil ?_
    refine WP.seq ?_
    refine WP.cond rfl (fun h3 => ?_) (fun h3 => ?_)
    · have h3 := of_decide_eq_true h3
      have hpr : Rs G L rectT (gd xs i).marker.v (gd xs i).marker.xs := hd.marker (by omega)
      have hei := erVs_gd (xs := xs) (i := i) (by omega)
      refine WP.skip ?_
      refine WP.seq ?_
      refine WP.block ?_
      refine WP.seq ?_
      refine WP.region ?_
      refine RG.pv rfl (PV.mvI (.inl rfl) rfl) ?_
      refine RG.pv rfl (PV.idxS (v := v) rfl Is55 rfl (SlF.r h1) rfl rfl (by omega)) ?_
      refine RG.pv rfl (PV.loadE rfl Ag63 rfl rfl (El.r h1 (getG (by omega)))) ?_
      refine RG.ot rfl (OT.alloc rfl Zr63 fun b4 => ?_)
      refine RG.pv rfl (PV.mvI (.inr rfl) rfl) ?_
      refine RG.ot rfl (OT.storeW (vs := [vi _, _]) rfl Sz63 rfl rfl (Cl.c rfl) rfl rfl (OneC.val rfl (OneC.sl (SlF.r hpr) OneC.nil)) ?_)
      refine RG.nil ?_
      refine WP.seq ?_
      refine WP.seq ?_
      refine WP.region ?_
      refine RG.pv rfl (PV.loadW rfl Ag63 rfl rfl) ?_
      refine RG.callF (vs := [_]) rfl rfl En75 rfl (okV_i (hd.marker (by omega)).up ?_)
      refine RG.pv rfl (PV.not rfl rfl) ?_
      refine RG.nil ?_
      refine WP.cond rfl (fun h4 => ?_) (fun h4 => ?_)
      · have e : repAt (erVs xs) i = false := by
          have : okV (erV (gd xs i)) = false := by simpa using h4
          rw [repAt, hei, this]; rfl
        rw [rep_false (by omega) e] at k
        refine WP.seq ?_
        refine WP.region ?_
        refine RG.pv rfl (PV.mvB (.inr rfl) rfl) ?_
        refine RG.nil ?_
        refine WP.ret ?_
        exact ⟨_, _, ResV.one rfl rfl, Cv.p, k⟩
      · have hok : okV (gd (erVs xs) i) = true := by rw [hei]; simpa using h4
        obtain ⟨hr0, hn0, _⟩ := okV_reg hok
        rw [hei] at hr0 hn0
        have hn0 : 0 < (gd xs i).marker.xs.length := hn0
        have hnext : stepV (erVs xs) i = true → ∀ j, j < i + 1 → repAt (erVs xs) j = true := fun hs j h => by
          by_cases c : j = i
          · rw [c, repAt, hok, hs]; rfl
          · exact hj j (by omega)
        have hstep : 0 < i → stepV (erVs xs) i = (decide ((gd xs (i - 1)).rule < (gd xs i).rule) || (decide ((gd xs (i - 1)).rule = (gd xs i).rule) && rLt (gd (gd xs (i - 1)).marker.xs 0) (gd (gd xs i).marker.xs 0) && !blkM (erVs xs) (erV (gd xs i)) i)) := fun h0 => by
          rw [stepV, hei, erVs_gd (show i - 1 < xs.length by omega), decide_eq_false (show ¬ i = 0 by omega), Bool.false_or]; rfl
        refine WP.skip ?_
        refine WP.seq ?_
        refine WP.seq ?_
        refine WP.regionQ (by kernel_rfl) (by kernel_rfl) ?_
        refine RQ.pv rfl (PV.mvI (.inl rfl) rfl) ?_
        refine RQ.pv rfl (PV.eql rfl rfl rfl) ?_
        refine RQ.pv rfl (PV.mvB (.inl rfl) rfl) ?_
        refine RQ.gs rfl rfl rfl (fun hp => (PV.move (v := v) rfl rfl)) ?_
        refine RQ.gs rfl rfl rfl (fun hp => (PV.mvI (.inl rfl) rfl)) ?_
        refine RQ.gs rfl rfl rfl (fun hp => (PV.sub rfl (gs_t hp) rfl (by first | omega | (simp at hp; omega)))) ?_
        refine RQ.gs rfl rfl rfl (fun hp => (PV.idxS (j := i - 1) (v := v) rfl Is55 (gs_t hp) (SlF.r h1) (gs_t hp) (by first | omega | (simp at hp; omega)) (by first | omega | (simp at hp; omega)))) ?_
        refine RQ.gs rfl rfl rfl (fun hp => (PV.field rfl Fo63_0 (gs_t hp))) ?_
        refine RQ.gs rfl rfl rfl (fun hp => (PV.loadF rfl Sc2 (gs_t hp) rfl (El.r h1 (getG (by first | omega | (simp at hp; omega)))) rfl)) ?_
        refine RQ.gs rfl rfl rfl (fun hp => (PV.field rfl Fo63_0 rfl)) ?_
        refine RQ.gs rfl rfl rfl (fun hp => (PV.load1 rfl Sc2 (gs_t hp) (Rd.blk rfl))) ?_
        refine RQ.gs rfl rfl rfl (fun hp => (PV.lss rfl (gs_t hp) (gs_t hp))) ?_
        refine RQ.pv rfl (PV.pickO rfl rfl rfl (fun hq => gs_t (geqF hq))) ?_
        refine RQ.nil ?_
        refine WP.cond rfl (fun h5 => ?_) (fun h5 => ?_)
        · have hs : stepV (erVs xs) i = true := by
            by_cases c : i = 0
            · simp [stepV, c]
            · rw [hstep (by omega)]
              have : (gd xs (i - 1)).rule < (gd xs i).rule := by
                simp [c] at h5; exact h5
              simp [this]
          refine WP.exit ?_
          refine WP.region ?_
          refine RG.pv rfl (PV.add rfl rfl rfl (by omega)) ?_
          refine RG.pv rfl (PV.mvI (.inl rfl) rfl) ?_
          refine RG.nil ?_
          exact ⟨rfl, i + 1, ⟨by omega, hnext hs⟩, ⟨rfl, trivial⟩, ⟨rfl, rfl, rfl, trivial⟩, Cv.p, by omega⟩
        · have hi0 : 0 < i := by
            rcases Nat.eq_zero_or_pos i with c | c
            · subst c; simp at h5
            · exact c
          have hge : (gd xs i).rule ≤ (gd xs (i - 1)).rule := by
            have c : ¬ i = 0 := by omega
            simp [c] at h5; exact h5
          have hn1 : 0 < (gd xs (i - 1)).marker.xs.length := by
            have := hj (i - 1) (by omega)
            rw [repAt, Bool.and_eq_true, erVs_gd (by omega)] at this
            exact (okV_reg this.1).2.1
          refine WP.skip ?_
          refine WP.seq ?_
          refine WP.seq ?_
          refine WP.regionQ (by kernel_rfl) (by kernel_rfl) ?_
          refine RQ.pv rfl (PV.move (v := v) rfl rfl) ?_
          refine RQ.pv rfl (PV.mvI (.inl rfl) rfl) ?_
          refine RQ.pv rfl (PV.sub rfl rfl rfl (by omega)) ?_
          refine RQ.pv rfl (PV.idxS (j := i - 1) (v := v) rfl Is55 rfl (SlF.r h1) rfl (by omega) (by omega)) ?_
          refine RQ.pv rfl (PV.field rfl Fo63_0 rfl) ?_
          refine RQ.pv rfl (PV.loadF rfl Sc2 rfl rfl (El.r h1 (getG (by omega))) rfl) ?_
          refine RQ.pv rfl (PV.field rfl Fo63_0 rfl) ?_
          refine RQ.pv rfl (PV.load1 rfl Sc2 rfl (Rd.blk rfl)) ?_
          refine RQ.pv rfl (PV.gtr rfl rfl rfl) ?_
          refine RQ.pv rfl (PV.mvB (.inl rfl) rfl) ?_
          refine RQ.gs rfl rfl rfl (fun hp => (PV.move (v := v) rfl rfl)) ?_
          refine RQ.gs rfl rfl rfl (fun hp => (PV.mvI (.inl rfl) rfl)) ?_
          refine RQ.gs rfl rfl rfl (fun hp => (PV.sub rfl (gs_t hp) rfl (by first | omega | (simp at hp; omega)))) ?_
          refine RQ.gs rfl rfl rfl (fun hp => (PV.idxS (j := i - 1) (v := v) rfl Is55 (gs_t hp) (SlF.r h1) (gs_t hp) (by first | omega | (simp at hp; omega)) (by first | omega | (simp at hp; omega)))) ?_
          refine RQ.gs rfl rfl rfl (fun hp => (PV.field rfl Fo63_1 (gs_t hp))) ?_
          refine RQ.gs rfl rfl rfl (fun hp => (PV.loadF rfl Sc28 (gs_t hp) rfl (El.r h1 (getG (by first | omega | (simp at hp; omega)))) rfl)) ?_
          refine RQ.gs rfl rfl rfl (fun hp => (PV.idxS (j := 0) rfl Is28 (gs_t hp) (SlF.r (hd.marker (by omega))) rfl (by first | omega | (simp at hp; omega)) (by first | omega | (simp at hp; omega)))) ?_
          refine RQ.gs rfl rfl rfl (fun hp => (PV.loadE rfl Ag71 (gs_t hp) rfl (El.r (hd.marker (by omega)) (getG (by first | omega | (simp at hp; omega)))))) ?_
          refine RQ.gs rfl rfl rfl (fun hp => (PV.field rfl Fo63_1 rfl)) ?_
          refine RQ.gs rfl rfl rfl (fun hp => (PV.load1 rfl Sc28 (gs_t hp) (Rd.blk rfl))) ?_
          refine RQ.gs rfl rfl rfl (fun hp => (PV.idxS (j := 0) rfl Is28 (gs_t hp) (SlF.r hpr) rfl (by first | omega | (simp at hp; omega)) (by first | omega | (simp at hp; omega)))) ?_
          refine RQ.gs rfl rfl rfl (fun hp => (PV.loadE rfl Ag71 (gs_t hp) rfl (El.r hpr (getG (by first | omega | (simp at hp; omega)))))) ?_
          refine RQ.gsC rfl rfl rfl rfl En183 (fun hp => ⟨_, (acons (gs_t hp) (acons (gs_t hp) anil)), compareRects_s ⟨rfl, rfl, rfl⟩⟩) ?_
          refine RQ.gs rfl rfl rfl (fun hp => (PV.geq rfl (gs_t hp) rfl)) ?_
          refine RQ.pv rfl (PV.pickO rfl rfl rfl (fun hq => gs_t (geqF hq))) ?_
          refine RQ.nil ?_
          refine WP.cond rfl (fun h6 => ?_) (fun h6 => ?_)
          · have hs : stepV (erVs xs) i = false := by
              rw [hstep hi0, decide_eq_false (show ¬ (gd xs (i - 1)).rule < (gd xs i).rule by omega), Bool.false_or]
              by_cases c : (gd xs (i - 1)).rule = (gd xs i).rule
              · have hl : rLt (gd (gd xs (i - 1)).marker.xs 0) (gd (gd xs i).marker.xs 0) = false := by
                  have hc := cmpR_ge (gd (gd xs (i - 1)).marker.xs 0) (gd (gd xs i).marker.xs 0)
                  simp only [Bool.or_eq_true, decide_eq_true_eq] at h6
                  rcases h6 with h6 | h6
                  · omega
                  · rw [decide_eq_true h6] at hc; simpa using hc.symm
                rw [hl]; simp
              · simp [c]
            have e : repAt (erVs xs) i = false := by rw [repAt, hs, Bool.and_false]
            rw [rep_false (by omega) e] at k
            refine WP.seq ?_
            refine WP.region ?_
            refine RG.pv rfl (PV.mvB (.inr rfl) rfl) ?_
            refine RG.nil ?_
            refine WP.ret ?_
            exact ⟨_, _, ResV.one rfl rfl, Cv.p, k⟩
          · have hge2 : (gd xs (i - 1)).rule = (gd xs i).rule := by
              simp only [Bool.or_eq_false_iff, decide_eq_false_iff_not] at h6; omega
            have hl : rLt (gd (gd xs (i - 1)).marker.xs 0) (gd (gd xs i).marker.xs 0) = true := by
              have hc := cmpR_ge (gd (gd xs (i - 1)).marker.xs 0) (gd (gd xs i).marker.xs 0)
              simp only [Bool.or_eq_false_iff] at h6
              rw [h6.2] at hc; simpa using hc.symm
            have hstep2 : stepV (erVs xs) i = !blkM (erVs xs) (erV (gd xs i)) i := by
              rw [hstep hi0, decide_eq_false (show ¬ (gd xs (i - 1)).rule < (gd xs i).rule by omega), Bool.false_or, hl, decide_eq_true hge2]; rfl
            refine WP.skip ?_
            refine WP.seq ?_
            refine WP.region ?_
            refine RG.pv rfl (PV.mvI (.inl rfl) rfl) ?_
            refine RG.pv rfl (PV.sub rfl rfl rfl (by omega)) ?_
            refine RG.pv rfl (PV.mvI (.inr rfl) rfl) ?_
            refine RG.nil ?_
            refine WP.block ?_
            refine WP.loop1 [0, 4, 9, 10, 11] (fun (m : Int) => 0 ≤ m ∧ m ≤ i ∧ blkM (erVs xs) (erV (gd xs i)) i = blkM (erVs xs) (erV (gd xs i)) m.toNat) (fun (m : Int) => [(5, vi (m - 1))]) (fun (m : Int) => blk b4 63 (violT.enc (gd xs i)) :: L) (fun (m : Int) => m.toNat) (i : Int) ⟨by omega, by omega, by rw [Int.toNat_natCast]⟩ ⟨rfl, trivial⟩ Cv.p ?_
            rintro m τ1 ⟨hm0, hm, hmb⟩
            refine WP.seq ?_
            refine WP.seq ?_
            refine WP.regionQ (by kernel_rfl) (by kernel_rfl) ?_
            refine RQ.pv rfl (PV.mvI (.inl rfl) rfl) ?_
            refine RQ.pv rfl (PV.geq rfl rfl rfl) ?_
            refine RQ.pv rfl (PV.mvB (.inl rfl) rfl) ?_
            refine RQ.gs rfl rfl rfl (fun hp => (PV.move (v := v) rfl rfl)) ?_
            refine RQ.gs rfl rfl rfl (fun hp => (PV.mvI (.inl rfl) rfl)) ?_
            refine RQ.gs rfl rfl rfl (fun hp => (PV.idxS (j := (m - 1).toNat) (v := v) rfl Is55 (gs_t hp) (SlF.r h1) (gs_t hp) (by first | omega | (simp at hp; omega)) (by first | omega | (simp at hp; omega)))) ?_
            refine RQ.gs rfl rfl rfl (fun hp => (PV.field rfl Fo63_0 (gs_t hp))) ?_
            refine RQ.gs rfl rfl rfl (fun hp => (PV.loadF rfl Sc2 (gs_t hp) rfl (El.r h1 (getG (by first | omega | (simp at hp; omega)))) rfl)) ?_
            refine RQ.gs rfl rfl rfl (fun hp => (PV.field rfl Fo63_0 rfl)) ?_
            refine RQ.gs rfl rfl rfl (fun hp => (PV.load1 rfl Sc2 (gs_t hp) (Rd.blk rfl))) ?_
            refine RQ.gs rfl rfl rfl (fun hp => (PV.eql rfl (gs_t hp) (gs_t hp))) ?_
            refine RQ.pv rfl (PV.pickA rfl rfl (fun hq => gs_t (geqT hq)) rfl) ?_
            refine RQ.nil ?_
            refine WP.cond rfl (fun h7 => ?_) (fun h7 => ?_)
            · have h8 : 1 ≤ m ∧ (gd xs (m - 1).toNat).rule = (gd xs i).rule := by
                simp only [Bool.and_eq_true, decide_eq_true_eq] at h7; exact ⟨by omega, h7.2⟩
              have hem := erVs_gd (xs := xs) (i := (m - 1).toNat) (by omega)
              have hbg : blkM (erVs xs) (erV (gd xs i)) m.toNat = (meetB (gd xs (m - 1).toNat).marker.xs (gd xs i).marker.xs || blkM (erVs xs) (erV (gd xs i)) (m - 1).toNat) := by
                rw [show m.toNat = (m - 1).toNat + 1 by omega, blkM_go (by rw [hem]; exact h8.2), hem]; rfl
              refine WP.skip ?_
              refine WP.seq ?_
              refine WP.block ?_
              refine WP.seq ?_
              refine WP.regionQ (by kernel_rfl) (by kernel_rfl) ?_
              refine RQ.pv rfl (PV.move (v := v) rfl rfl) ?_
              refine RQ.pv rfl (PV.mvI (.inl rfl) rfl) ?_
              refine RQ.pv rfl (PV.idxS (j := (m - 1).toNat) (v := v) rfl Is55 rfl (SlF.r h1) rfl (by omega) (by omega)) ?_
              refine RQ.pv rfl (PV.field rfl Fo63_1 rfl) ?_
              refine RQ.pv rfl (PV.loadF rfl Sc28 rfl rfl (El.r h1 (getG (by omega))) rfl) ?_
              refine RQ.pv rfl (PV.field rfl Fo63_1 rfl) ?_
              refine RQ.pv rfl (PV.load1 rfl Sc28 rfl (Rd.blk rfl)) ?_
              refine RQ.callF (vs := [_, _]) rfl rfl En184 rfl (meet_s (hd.marker (by omega)).up (hd.marker (by omega)).up ⟨rfl, rfl, rfl⟩) ?_
              refine RQ.nil ?_
              refine WP.cond rfl (fun h9 => ?_) (fun h9 => ?_)
              · have hs : stepV (erVs xs) i = false := by rw [hstep2, hmb, hbg, h9]; rfl
                have e : repAt (erVs xs) i = false := by rw [repAt, hs, Bool.and_false]
                rw [rep_false (by omega) e] at k
                refine WP.seq ?_
                refine WP.region ?_
                refine RG.pv rfl (PV.mvB (.inr rfl) rfl) ?_
                refine RG.nil ?_
                refine WP.ret ?_
                exact ⟨_, _, ResV.one rfl rfl, Cv.p, k⟩
              · rw [h9, Bool.false_or] at hbg
                refine WP.skip ?_
                refine WP.region ?_
                refine RG.pv rfl (PV.mvI (.inl rfl) rfl) ?_
                refine RG.pv rfl (PV.sub rfl rfl rfl (by omega)) ?_
                refine RG.pv rfl (PV.mvI (.inr rfl) rfl) ?_
                refine RG.nil ?_
                exact ⟨rfl, (m - 1), ⟨by omega, by omega, by rw [hmb, hbg]⟩, ⟨rfl, trivial⟩, ⟨rfl, rfl, rfl, rfl, rfl, trivial⟩, Cv.p, by omega⟩
            · have hs : stepV (erVs xs) i = true := by
                rw [hstep2, hmb]
                rcases (by omega : m = 0 ∨ 1 ≤ m) with c | c
                · subst c; rfl
                · rw [show m.toNat = (m - 1).toNat + 1 by omega, blkM_stop]
                  · rfl
                  · rw [erVs_gd (by omega)]
                    intro e
                    have : (gd xs (m - 1).toNat).rule = (gd xs i).rule := e
                    simp only [this, decide_true, Bool.and_true, decide_eq_false_iff_not] at h7; omega
              refine WP.exit ?_
              refine WP.region ?_
              refine RG.pv rfl (PV.add rfl rfl rfl (by omega)) ?_
              refine RG.pv rfl (PV.mvI (.inl rfl) rfl) ?_
              refine RG.nil ?_
              exact ⟨rfl, i + 1, ⟨by omega, hnext hs⟩, ⟨rfl, trivial⟩, ⟨rfl, rfl, rfl, trivial⟩, Cv.p, by omega⟩
    · have h3 := of_decide_eq_false h3
      rw [rep_all (by omega) (fun i hi => hj i (by omega))] at k
      refine WP.exit ?_
      refine WP.seq ?_
      refine WP.region ?_
      refine RG.pv rfl (PV.mvB (.inr rfl) rfl) ?_
      refine RG.nil ?_
      refine WP.ret ?_
      exact ⟨_, _, ResV.one rfl rfl, Cv.p, k⟩
end Go.Proofs.YtpjajhjcbcfplaaGreat
namespace Go.Proofs.YtpjajhjcbcfplaaGreat
set_option linter.unusedVariables false
set_option linter.unusedSimpArgs false
open Go
set_option maxRecDepth 20000
set_option linter.unusedSimpArgs false
variable {G : Gh} {L : List Ch} {R : Value → Gh → List Ch → Prop}
noncomputable def wcBad (rs : List Rule) (E : List (Int × List Rect)) (ws : List Waiver) : Bool := !deckOk rs || !repOk E || !isWL ws
def wcFar (rs : List Rule) (E : List (Int × List Rect)) : Bool := E.any fun v => decide ((rs.length : Int) ≤ v.1)
noncomputable def wCode (rs : List Rule) (E : List (Int × List Rect)) (ws : List Waiver) : Int := bif wcBad rs E ws then 1 else bif wcFar rs E then 5 else 0
theorem wCode_zero {rs : List Rule} {E : List (Int × List Rect)} {ws : List Waiver} (h : wCode rs E ws = 0) : deckOk rs = true ∧ repOk E = true ∧ isWL ws = true ∧ ∀ i, i < E.length → (gd E i).1 < rs.length := by
  unfold wCode at h
  cases hb : wcBad rs E ws with
  | true => rw [hb] at h; cases h
  | false =>
    rw [hb, cond_false] at h
    cases hf : wcFar rs E with
    | true => rw [hf] at h; cases h
    | false =>
      simp only [wcBad, Bool.or_eq_false_iff, Bool.not_eq_false'] at hb
      refine ⟨hb.1.1, hb.1.2, hb.2, fun i hi => ?_⟩
      rw [wcFar, List.any_eq_false] at hf
      have := hf (gd E i) (by rw [gd_eq hi]; exact List.getElem_mem _)
      simp only [decide_eq_true_eq] at this; omega
theorem wcFar_er (rs : List Rule) (xs : List Viol) : (xs.any fun v => decide ((rs.length : Int) ≤ v.rule)) = wcFar rs (erVs xs) := by
  rw [wcFar, erVs, List.any_map]; rfl
theorem wcode1_s {d : Deck} {v : Viol} {b : Nat} (h1 : Rs G L ruleT d.rules.v d.rules.xs) (hc : RdN G L b (deckT.enc d)) (k : R (.bool (decide ((d.rules.xs.length : Int) ≤ v.rule))) G L) : CallT Tryz.prog 140 #[vT violT v, .pointer (some ⟨b, 0, none⟩)] G L R := by
  refine CallT.enter (args := _) Tryz.func140 rfl rfl (by kernel_rfl) rfl ?_
  refine WP.seq ?_
  refine WP.region ?_
  refine RG.ot rfl (OT.box (cs := violT.enc v) rfl rfl rfl fun b2 => ?_)
  refine RG.pv rfl (PV.mvB (.inr rfl) rfl) ?_
  refine RG.nil ?_
  refine WP.seq ?_
  refine WP.region ?_
  refine RG.pv rfl (PV.field rfl Fo63_0 rfl) ?_
  refine RG.pv rfl (PV.load1 rfl Sc2 rfl (Rd.blk rfl)) ?_
  refine RG.pv rfl (PV.field rfl Fo54_0 rfl) ?_
  refine RG.pv rfl (PV.load1 rfl Sc52 rfl ((RdN.up hc) 0 _ rfl)) ?_
  refine RG.pv rfl (PV.len rfl Tryz.underlying52 rfl (SlF.r h1)) ?_
  refine RG.pv rfl (PV.geq rfl rfl rfl) ?_
  refine RG.pv rfl (PV.mvB (.inr rfl) rfl) ?_
  refine RG.nil ?_
  refine WP.ret ?_
  exact ⟨_, _, ResV.one rfl rfl, Cv.p, k⟩
theorem indexF_viol {v fv : Value} {xs : List (Viol)} {p : (Viol) → Bool} (h1 : Rs G L violT v xs) (hf : ∀ i, i < xs.length → CB Tryz.prog G L fv [vT violT (gd xs i)] (.bool (p (gd xs i)))) (k : R (vi (idxI p xs)) G L) : CallT Tryz.prog 142 #[v, fv] G L R := by
  refine CallT.bd h1 fun hb => ?_
  refine CallT.enter (args := _) Tryz.func142 rfl rfl (by kernel_rfl) rfl ?_
  refine WP.seq ?_
  refine WP.region ?_
  refine RG.pv rfl (PV.mvI (.inr rfl) rfl) ?_
  refine RG.nil ?_
  refine WP.seq ?_
  refine WP.seq ?_
  refine WP.region ?_
  refine RG.pv rfl (PV.move (v := v) rfl rfl) ?_
  refine RG.pv rfl (PV.len (v := v) rfl Tryz.underlying55 rfl (SlF.r h1)) ?_
  refine RG.pv rfl (PV.mvI (.inl rfl) rfl) ?_
  refine RG.nil ?_
  refine WP.block ?_
  refine WP.loop1 [0, 1, 7] (fun i => i ≤ xs.length ∧ ∀ j, j < i → p (gd xs j) = false) (fun i => [(8, vi i)]) (fun i => L) (fun i => xs.length - i) 0 ⟨by omega, fun j h => by omega⟩ ⟨rfl, trivial⟩ Cv.p ?_
  rintro i τ ⟨hi, hj⟩
  refine WP.seq ?_
  refine WP.region ?_
  refine RG.pv rfl (PV.lss rfl rfl rfl) ?_
  refine RG.nil ?_
  refine WP.seq ?_
  refine WP.cond rfl (fun h2 => ?_) (fun h2 => ?_)
  · have h2 := of_decide_eq_true h2
    refine WP.skip ?_
    refine WP.seq ?_
    refine WP.block ?_
    refine WP.seq ?_
    refine WP.region ?_
    refine RG.pv rfl (PV.mvI (.inl rfl) rfl) ?_
    refine RG.pv rfl (PV.mvI (.inr rfl) rfl) ?_
    refine RG.nil ?_
    refine WP.seq ?_
    refine WP.region ?_
    refine RG.pv rfl (PV.move (v := fv) rfl rfl) ?_
    refine RG.pv rfl (PV.move (v := v) rfl rfl) ?_
    refine RG.pv rfl (PV.mvI (.inl rfl) rfl) ?_
    refine RG.pv rfl (PV.idxS (v := v) rfl Is55 rfl (SlF.r h1) rfl rfl (by omega)) ?_
    refine RG.pv rfl (PV.loadE rfl Ag63 rfl rfl (El.r h1 (getG (by omega)))) ?_
    refine RG.callB (vs := [_]) rfl rfl rfl rfl (CB.up (hf i (by omega))) ?_
    refine RG.nil ?_
    refine WP.cond rfl (fun h3 => ?_) (fun h3 => ?_)
    · rw [idxI_at (by omega) h3 hj] at k
      refine WP.seq ?_
      refine WP.region ?_
      refine RG.pv rfl (PV.mvI (.inl rfl) rfl) ?_
      refine RG.pv rfl (PV.mvI (.inr rfl) rfl) ?_
      refine RG.nil ?_
      refine WP.ret ?_
      exact ⟨_, _, ResV.one rfl rfl, Cv.p, k⟩
    · have hj' : ∀ j, j < i + 1 → p (gd xs j) = false := fun j h => by
        by_cases c : j = i
        · rw [c]; exact h3
        · exact hj j (by omega)
      refine WP.skip ?_
      refine WP.region ?_
      refine RG.pv rfl (PV.add rfl rfl rfl (by omega)) ?_
      refine RG.pv rfl (PV.mvI (.inl rfl) rfl) ?_
      refine RG.nil ?_
      exact ⟨rfl, i + 1, ⟨by omega, hj'⟩, ⟨rfl, trivial⟩, ⟨rfl, rfl, rfl, trivial⟩, Cv.p, by omega⟩
  · have h2 := of_decide_eq_false h2
    rw [idxI_none (fun j h => hj j (by omega))] at k
    refine WP.exit ?_
    refine WP.seq ?_
    refine WP.region ?_
    refine RG.pv rfl (PV.mvI (.inr rfl) rfl) ?_
    refine RG.nil ?_
    refine WP.ret ?_
    exact ⟨_, _, ResV.one rfl rfl, Cv.p, k⟩
theorem containsF_viol {v fv : Value} {xs : List (Viol)} {p : (Viol) → Bool} (h1 : Rs G L violT v xs) (hf : ∀ i, i < xs.length → CB Tryz.prog G L fv [vT violT (gd xs i)] (.bool (p (gd xs i)))) (k : R (.bool (xs.any p)) G L) : CallT Tryz.prog 84 #[v, fv] G L R := by
  rw [← idxI_any] at k
  refine CallT.enter (args := _) Tryz.func84 rfl rfl (by kernel_rfl) rfl ?_
  refine WP.seq ?_
  refine WP.region ?_
  refine RG.pv rfl (PV.mvB (.inr rfl) rfl) ?_
  refine RG.nil ?_
  refine WP.seq ?_
  refine WP.region ?_
  refine RG.pv rfl (PV.move (v := v) rfl rfl) ?_
  refine RG.pv rfl (PV.move (v := fv) rfl rfl) ?_
  refine RG.callF (vs := [v, fv]) rfl rfl En142 rfl (indexF_viol (Rs.up h1) (fun i hi => (hf i hi).up) ?_)
  refine RG.pv rfl (PV.geq rfl rfl rfl) ?_
  refine RG.pv rfl (PV.mvB (.inr rfl) rfl) ?_
  refine RG.nil ?_
  refine WP.ret ?_
  exact ⟨_, _, ResV.one rfl rfl, Cv.p, k⟩
theorem wcode_i {d : Deck} {u w : Value} {xs : List Viol} {ws : List Waiver} (h1 : Rs G L ruleT d.rules.v d.rules.xs) (h2 : Rs G L violT u xs) (hd : RsE G L rectT (mks xs)) (h3 : Rs G L waiverT w ws) (hlen : ∀ i, i < ws.length → (gd ws i).reason.size ≤ 9223372036854775807)
    (k : R (vi (wCode d.rules.xs (erVs xs) ws)) G L) : CallT Tryz.prog 82 #[vT deckT d, u, w] G L R := by
  refine CallT.enter (args := _) Tryz.func82 rfl rfl (by kernel_rfl) rfl ?_
  refine WP.seq ?_
  refine WP.region ?_
  refine RG.ot rfl (OT.box (cs := deckT.enc d) rfl rfl rfl fun b3 => ?_)
  refine RG.pv rfl (PV.mvI (.inr rfl) rfl) ?_
  refine RG.nil ?_
  refine WP.seq ?_
  refine WP.block ?_
  refine WP.seq ?_
  refine WP.region ?_
  refine RG.pv rfl (PV.loadW rfl Ag54 rfl rfl) ?_
  refine RG.callF (vs := [_]) rfl rfl En74 rfl (deck_i h1.up ?_)
  refine RG.pv rfl (PV.not rfl rfl) ?_
  refine RG.pv rfl (PV.mvB (.inl rfl) rfl) ?_
  refine RG.gs rfl rfl rfl (fun hp => (PV.move (v := u) rfl rfl)) ?_
  refine RG.gsC rfl rfl rfl rfl En139 (fun hp => ⟨_, (acons (gs_t hp) anil), report_i h2.up hd.up ⟨rfl, rfl, rfl⟩⟩) ?_
  refine RG.gs rfl rfl rfl (fun hp => (PV.not rfl (gs_t hp))) ?_
  refine RG.pv rfl (PV.pickO rfl rfl rfl (fun hq => gs_t (geqF hq))) ?_
  refine RG.pv rfl (PV.mvB (.inl rfl) rfl) ?_
  refine RG.gs rfl rfl rfl (fun hp => (PV.move (v := w) rfl rfl)) ?_
  refine RG.gsC rfl rfl rfl rfl En77 (fun hp => ⟨_, (acons (gs_t hp) anil), isWL_s h3.up hlen ⟨rfl, rfl, rfl⟩⟩) ?_
  refine RG.gs rfl rfl rfl (fun hp => (PV.not rfl (gs_t hp))) ?_
  refine RG.pv rfl (PV.pickO rfl rfl rfl (fun hq => gs_t (geqF hq))) ?_
  refine RG.pv rfl (PV.mvB (.inr rfl) rfl) ?_
  refine RG.nil ?_
  refine WP.cond rfl (fun h4 => ?_) (fun h4 => ?_)
  · have e : wCode d.rules.xs (erVs xs) ws = 1 := by
      have : wcBad d.rules.xs (erVs xs) ws = true := h4
      rw [wCode, this]; rfl
    rw [e] at k
    refine WP.seq ?_
    refine WP.region ?_
    refine RG.pv rfl (PV.mvI (.inr rfl) rfl) ?_
    refine RG.nil ?_
    refine WP.ret ?_
    exact ⟨_, _, ResV.one rfl rfl, Cv.p, k⟩
  · have hb : wcBad d.rules.xs (erVs xs) ws = false := h4
    refine WP.seq ?_
    refine WP.region ?_
    refine RG.pv rfl (PV.move (v := u) rfl rfl) ?_
    refine RG.pv rfl (PV.mkf1 rfl rfl) ?_
    refine RG.callF (vs := [u, _]) rfl rfl En84 rfl (containsF_viol (Rs.up h2) (p := fun v => decide ((d.rules.xs.length : Int) ≤ v.rule)) (fun i hi => CB.mk1 En140 fun L' R c k => wcode1_s (Rs.cv c h1.up) (RdN.cv RdN.blk c) k) ?_)
    refine RG.pv rfl (PV.mvB (.inr rfl) rfl) ?_
    refine RG.nil ?_
    refine WP.cond rfl (fun h5 => ?_) (fun h5 => ?_)
    · have e : wCode d.rules.xs (erVs xs) ws = 5 := by rw [wCode, hb, cond_false, ← wcFar_er, h5]; rfl
      rw [e] at k
      refine WP.seq ?_
      refine WP.region ?_
      refine RG.pv rfl (PV.mvI (.inr rfl) rfl) ?_
      refine RG.nil ?_
      refine WP.ret ?_
      exact ⟨_, _, ResV.one rfl rfl, Cv.p, k⟩
    · have e : wCode d.rules.xs (erVs xs) ws = 0 := by rw [wCode, hb, cond_false, ← wcFar_er, h5]; rfl
      rw [e] at k
      refine WP.skip ?_
      refine WP.seq ?_
      refine WP.region ?_
      refine RG.pv rfl (PV.mvI (.inr rfl) rfl) ?_
      refine RG.nil ?_
      refine WP.ret ?_
      exact ⟨_, _, ResV.one rfl rfl, Cv.p, k⟩
theorem wcode_r {d : Deck} {u w : Value} {xs : List Viol} {ws : List Waiver} (h1 : Rs G L ruleT d.rules.v d.rules.xs) (h2 : Rs G L violT u xs) (hd : RsE G L rectT (mks xs)) (h3 : Rs G L waiverT w ws) (hlen : ∀ i, i < ws.length → (gd ws i).reason.size ≤ 9223372036854775807)
    (k : R (vi (wCode d.rules.xs (erVs xs) ws)) G L) : CallT Tryz.prog 70 #[vT deckT d, u, w] G L R := by
  refine CallT.bd h2 fun hb0 => ?_
  refine CallT.enter (args := _) Tryz.func70 rfl rfl (by kernel_rfl) rfl ?_
  refine WP.seq ?_
  refine WP.region ?_
  refine RG.ot rfl (OT.box (cs := deckT.enc d) rfl rfl rfl fun b3 => ?_)
  refine RG.pv rfl (PV.mvI (.inr rfl) rfl) ?_
  refine RG.nil ?_
  refine WP.seq ?_
  refine WP.seq ?_
  refine WP.region ?_
  refine RG.pv rfl (PV.loadW rfl Ag54 rfl rfl) ?_
  refine RG.callF (vs := [_]) rfl rfl En125 rfl (deck_r h1.up ?_)
  refine RG.pv rfl (PV.not rfl rfl) ?_
  refine RG.pv rfl (PV.mvB (.inl rfl) rfl) ?_
  refine RG.gs rfl rfl rfl (fun hp => (PV.move (v := u) rfl rfl)) ?_
  refine RG.gsC rfl rfl rfl rfl En126 (fun hp => ⟨_, (acons (gs_t hp) anil), report_r h2.up hd.up ⟨rfl, rfl, rfl⟩⟩) ?_
  refine RG.gs rfl rfl rfl (fun hp => (PV.not rfl (gs_t hp))) ?_
  refine RG.pv rfl (PV.pickO rfl rfl rfl (fun hq => gs_t (geqF hq))) ?_
  refine RG.pv rfl (PV.mvB (.inl rfl) rfl) ?_
  refine RG.gs rfl rfl rfl (fun hp => (PV.move (v := w) rfl rfl)) ?_
  refine RG.gsC rfl rfl rfl rfl En127 (fun hp => ⟨_, (acons (gs_t hp) anil), isWL_s' h3.up hlen ⟨rfl, rfl, rfl⟩⟩) ?_
  refine RG.gs rfl rfl rfl (fun hp => (PV.not rfl (gs_t hp))) ?_
  refine RG.pv rfl (PV.pickO rfl rfl rfl (fun hq => gs_t (geqF hq))) ?_
  refine RG.nil ?_
  refine WP.cond rfl (fun h4 => ?_) (fun h4 => ?_)
  · have e : wCode d.rules.xs (erVs xs) ws = 1 := by
      have : wcBad d.rules.xs (erVs xs) ws = true := h4
      rw [wCode, this]; rfl
    rw [e] at k
    refine WP.seq ?_
    refine WP.region ?_
    refine RG.pv rfl (PV.mvI (.inr rfl) rfl) ?_
    refine RG.nil ?_
    refine WP.ret ?_
    exact ⟨_, _, ResV.one rfl rfl, Cv.p, k⟩
  · have hb : wcBad d.rules.xs (erVs xs) ws = false := h4
    refine WP.skip ?_
    refine WP.seq ?_
    refine WP.seq ?_
    refine WP.region ?_
    refine RG.pv rfl (PV.mvI (.inr rfl) rfl) ?_
    refine RG.nil ?_
    refine WP.block ?_
    refine WP.loop1 [1, 3] (fun i => i ≤ xs.length ∧ ∀ j, j < i → decide ((d.rules.xs.length : Int) ≤ (gd xs j).rule) = false) (fun i => [(7, vi i)]) (fun i => blk b3 54 (deckT.enc d) :: L) (fun i => xs.length - i) 0 ⟨by omega, fun j h => by omega⟩ ⟨rfl, trivial⟩ Cv.p ?_
    rintro i τ ⟨hi, hj⟩
    refine WP.seq ?_
    refine WP.seq ?_
    refine WP.region ?_
    refine RG.pv rfl (PV.mvI (.inl rfl) rfl) ?_
    refine RG.pv rfl (PV.move (v := u) rfl rfl) ?_
    refine RG.pv rfl (PV.len (v := u) rfl Tryz.underlying55 rfl (SlF.r h2)) ?_
    refine RG.pv rfl (PV.lss rfl rfl rfl) ?_
    refine RG.nil ?_
    refine WP.cond rfl (fun h5 => ?_) (fun h5 => ?_)
    · have h5 := of_decide_eq_true h5
      refine WP.skip ?_
      refine WP.seq ?_
      refine WP.block ?_
      refine WP.seq ?_
      refine WP.regionQ (by kernel_rfl) (by kernel_rfl) ?_
      refine RQ.pv rfl (PV.move (v := u) rfl rfl) ?_
      refine RQ.pv rfl (PV.mvI (.inl rfl) rfl) ?_
      refine RQ.pv rfl (PV.idxS (v := u) rfl Is55 rfl (SlF.r h2) rfl rfl (by omega)) ?_
      refine RQ.pv rfl (PV.field rfl Fo63_0 rfl) ?_
      refine RQ.pv rfl (PV.loadF rfl Sc2 rfl rfl (El.r h2 (getG (by omega))) rfl) ?_
      refine RQ.pv rfl (PV.field rfl Fo54_0 rfl) ?_
      refine RQ.pv rfl (PV.load1 rfl Sc52 rfl (Rd.blk rfl)) ?_
      refine RQ.pv rfl (PV.len rfl Tryz.underlying52 rfl (SlF.r h1)) ?_
      refine RQ.pv rfl (PV.geq rfl rfl rfl) ?_
      refine RQ.nil ?_
      refine WP.cond rfl (fun h6 => ?_) (fun h6 => ?_)
      · have e : wCode d.rules.xs (erVs xs) ws = 5 := by
          have : (xs.any fun v => decide ((d.rules.xs.length : Int) ≤ v.rule)) = true := List.any_eq_true.2 ⟨gd xs i, by rw [gd_eq (by omega)]; exact List.getElem_mem _, h6⟩
          rw [wCode, hb, cond_false, ← wcFar_er, this]; rfl
        rw [e] at k
        refine WP.seq ?_
        refine WP.region ?_
        refine RG.pv rfl (PV.mvI (.inr rfl) rfl) ?_
        refine RG.nil ?_
        refine WP.ret ?_
        exact ⟨_, _, ResV.one rfl rfl, Cv.p, k⟩
      · have hj' : ∀ j, j < i + 1 → decide ((d.rules.xs.length : Int) ≤ (gd xs j).rule) = false := fun j h => by
          by_cases c : j = i
          · rw [c]; exact h6
          · exact hj j (by omega)
        refine WP.skip ?_
        refine WP.region ?_
        refine RG.pv rfl (PV.mvI (.inl rfl) rfl) ?_
        refine RG.pv rfl (PV.add rfl rfl rfl (by omega)) ?_
        refine RG.pv rfl (PV.mvI (.inr rfl) rfl) ?_
        refine RG.nil ?_
        exact ⟨rfl, i + 1, ⟨by omega, hj'⟩, ⟨rfl, trivial⟩, ⟨rfl, rfl, trivial⟩, Cv.p, by omega⟩
    · have h5 := of_decide_eq_false h5
      have e : wCode d.rules.xs (erVs xs) ws = 0 := by
        have : (xs.any fun v => decide ((d.rules.xs.length : Int) ≤ v.rule)) = false := by
          rw [List.any_eq_false]
          intro r hr
          obtain ⟨j, hj2, rfl⟩ := List.getElem_of_mem hr
          have := hj j (by omega)
          rw [gd_eq hj2] at this
          simpa using this
        rw [wCode, hb, cond_false, ← wcFar_er, this]; rfl
      rw [e] at k
      refine WP.exit ?_
      refine WP.seq ?_
      refine WP.region ?_
      refine RG.pv rfl (PV.mvI (.inr rfl) rfl) ?_
      refine RG.nil ?_
      refine WP.ret ?_
      exact ⟨_, _, ResV.one rfl rfl, Cv.p, k⟩
def sigA (rs : List Rule) (v : Int × List Rect) : Int := sigR (gd rs v.1.toNat) v.2
def usedW (rs : List Rule) (E : List (Int × List Rect)) (w : Waiver) : Bool := E.any fun v => decide (sigA rs v = w.sig)
noncomputable def unusedR (rs : List Rule) (E : List (Int × List Rect)) (ws : List Waiver) : List Waiver := if wCode rs E ws = 0 then ws.filter (fun w => !usedW rs E w) else []
theorem filter_step {α : Type} [Inhabited α] (p : α → Bool) {xs : List α} {i : Nat} (h : i < xs.length) : (xs.take (i + 1)).filter p = (xs.take i).filter p ++ (if p (gd xs i) then [gd xs i] else []) := by
  rw [List.take_add_one, getG h, List.filter_append]
  cases hp : p (gd xs i) <;> simp [hp]
/-- what a report gives for each of its violations -/
theorem rep_facts {rs : List Rule} {xs : List Viol} {ws : List Waiver} (h : wCode rs (erVs xs) ws = 0) {i : Nat} (hi : i < xs.length) : (0 ≤ (gd xs i).rule ∧ (gd xs i).rule < rs.length) ∧ validRule (gd rs (gd xs i).rule.toNat) = true ∧ isReg (gd xs i).marker.xs = true ∧ 0 < (gd xs i).marker.xs.length := by
  obtain ⟨q1, q2, q3, q4⟩ := wCode_zero h
  have hl := erVs_len xs
  have h1 := rep_okV q2 (i := i) (by omega)
  have h2 := q4 i (by omega)
  rw [erVs_gd hi] at h1 h2
  obtain ⟨a1, a2, a3, _⟩ := okV_reg h1
  have h2 : (gd xs i).rule < rs.length := h2
  have a3 : 0 ≤ (gd xs i).rule := a3
  exact ⟨⟨a3, h2⟩, deck_rule q1 (by omega), a1, a2⟩
theorem unused1_s {d : Deck} {v : Viol} {w : Waiver} {b c : Nat} (h1 : Rs G L ruleT d.rules.v d.rules.xs) (h2 : Rs G L rectT v.marker.v v.marker.xs) (hv : 0 ≤ v.rule ∧ v.rule < d.rules.xs.length) (hr : validRule (gd d.rules.xs v.rule.toNat) = true) (hreg : isReg v.marker.xs = true) (hne : 0 < v.marker.xs.length) (hb : RdN G L b (deckT.enc d)) (hc : RdN G L c (waiverT.enc w))
    (k : R (.bool (decide (sigA d.rules.xs (erV v) = w.sig))) G L) : CallT Tryz.prog 85 #[vT violT v, .pointer (some ⟨b, 0, none⟩), .pointer (some ⟨c, 0, none⟩)] G L R := by
  refine CallT.enter (args := _) Tryz.func85 rfl rfl (by kernel_rfl) rfl ?_
  refine WP.seq ?_
  refine WP.region ?_
  refine RG.ot rfl (OT.box (cs := violT.enc v) rfl rfl rfl fun b3 => ?_)
  refine RG.pv rfl (PV.mvB (.inr rfl) rfl) ?_
  refine RG.nil ?_
  refine WP.seq ?_
  refine WP.regionQ (by kernel_rfl) (by kernel_rfl) ?_
  refine RQ.pv rfl (PV.loadA rfl Ag54 rfl rfl (RdN.up hb)) ?_
  refine RQ.pv rfl (PV.loadW rfl Ag63 rfl rfl) ?_
  refine RQ.callF (vs := [_, _]) rfl rfl En76 rfl (sigV_i h1.up h2.up hv hr hreg hne ⟨rfl, rfl, rfl⟩) ?_
  refine RQ.pv rfl (PV.field rfl Fo67_0 rfl) ?_
  refine RQ.pv rfl (PV.load1 rfl Sc2 rfl ((RdN.up hc) 0 _ rfl)) ?_
  refine RQ.pv rfl (PV.eql rfl rfl rfl) ?_
  refine RQ.pv rfl (PV.mvB (.inr rfl) rfl) ?_
  refine RQ.nil ?_
  refine WP.ret ?_
  exact ⟨_, _, ResV.one rfl rfl, Cv.p, k⟩
theorem usedW_er (rs : List Rule) (xs : List Viol) (w : Waiver) : (xs.any fun v => decide (sigA rs (erV v) = w.sig)) = usedW rs (erVs xs) w := by
  rw [usedW, erVs, List.any_map]; rfl
theorem unused_i {d : Deck} {u w : Value} {xs : List Viol} {ws : List Waiver} (h1 : Rs G L ruleT d.rules.v d.rules.xs) (h2 : Rs G L violT u xs) (hd : RsE G L rectT (mks xs)) (h3 : Rs G L waiverT w ws) (hlen : ∀ i, i < ws.length → (gd ws i).reason.size ≤ 9223372036854775807)
    (k : ∀ v', R (.tuple #[v', vi (wCode d.rules.xs (erVs xs) ws)]) G (osl 67 waiverT v' (unusedR d.rules.xs (erVs xs) ws) :: L)) : CallT Tryz.prog 34 #[vT deckT d, u, w] G L R := by
  refine CallT.bd h3 fun hb0 => ?_
  refine CallT.enter (args := _) Tryz.func34 rfl rfl (by kernel_rfl) rfl ?_
  refine WP.seq ?_
  refine WP.region ?_
  refine RG.ot rfl (OT.box (cs := deckT.enc d) rfl rfl rfl fun b3 => ?_)
  refine RG.pv rfl (PV.asg rfl rfl) ?_
  refine RG.pv rfl (PV.mvI (.inr rfl) rfl) ?_
  refine RG.nil ?_
  refine WP.seq ?_
  refine WP.seq ?_
  refine WP.region ?_
  refine RG.pv rfl (PV.loadW rfl Ag54 rfl rfl) ?_
  refine RG.pv rfl (PV.move (v := u) rfl rfl) ?_
  refine RG.pv rfl (PV.move (v := w) rfl rfl) ?_
  refine RG.callF (vs := [_, u, w]) rfl rfl En82 rfl (wcode_i h1.up h2.up hd.up h3.up hlen ?_)
  refine RG.pv rfl (PV.mvI (.inr rfl) rfl) ?_
  refine RG.nil ?_
  refine WP.seq ?_
  refine WP.region ?_
  refine RG.pv rfl (PV.mvI (.inl rfl) rfl) ?_
  refine RG.pv rfl (PV.neq rfl rfl rfl) ?_
  refine RG.nil ?_
  refine WP.cond rfl (fun h4 => ?_) (fun h4 => ?_)
  · have hz : wCode d.rules.xs (erVs xs) ws ≠ 0 := by simpa using h4
    have e : unusedR d.rules.xs (erVs xs) ws = [] := by rw [unusedR, if_neg hz]
    rw [e] at k
    refine WP.seq ?_
    refine WP.region ?_
    refine RG.pv rfl (PV.mvI (.inl rfl) rfl) ?_
    refine RG.pv rfl (PV.asg rfl rfl) ?_
    refine RG.pv rfl (PV.mvI (.inr rfl) rfl) ?_
    refine RG.nil ?_
    refine WP.ret ?_
    exact ⟨_, _, ResV.two rfl rfl rfl, Cv.nilP, k _⟩
  · have hz : wCode d.rules.xs (erVs xs) ws = 0 := by simpa using h4
    have e : unusedR d.rules.xs (erVs xs) ws = ws.filter (fun w => !usedW d.rules.xs (erVs xs) w) := by rw [unusedR, if_pos hz]
    rw [e, hz] at k
    have hwl : ws.length ≤ 16 := by
      have := (wCode_zero hz).2.2.1
      simp only [isWL, Bool.and_eq_true, decide_eq_true_eq] at this; exact this.1
    refine WP.skip ?_
    refine WP.seq ?_
    refine WP.region ?_
    refine RG.ot rfl (OT.bslice (F := waiverT) (els := []) rfl El56 rfl (by decide) rfl (by decide) trivial fun v19 => ?_)
    refine RG.pv rfl (PV.asg (v := v19) rfl rfl) ?_
    refine RG.nil ?_
    refine WP.seq ?_
    refine WP.seq ?_
    refine WP.region ?_
    refine RG.pv rfl (PV.move (v := w) rfl rfl) ?_
    refine RG.pv rfl (PV.len (v := w) rfl Tryz.underlying56 rfl (SlF.r h3)) ?_
    refine RG.pv rfl (PV.mvI (.inl rfl) rfl) ?_
    refine RG.nil ?_
    refine WP.block ?_
    refine WP.loop3 [1, 3, 20, 21] (fun (i : Nat) (os : List Waiver) (q : Value) => i ≤ ws.length ∧ os = (ws.take i).filter (fun w => !usedW d.rules.xs (erVs xs) w)) (fun (i : Nat) (os : List Waiver) (q : Value) => [(22, vi i), (9, q)]) (fun (i : Nat) (os : List Waiver) (q : Value) => osl 67 waiverT q os :: blk b3 54 (deckT.enc d) :: L) (fun (i : Nat) (os : List Waiver) (q : Value) => ws.length - i) 0 [] v19 ⟨by omega, rfl⟩ ⟨rfl, rfl, trivial⟩ Cv.p ?_
    rintro i os q τ ⟨hi, hos⟩
    refine WP.seq ?_
    refine WP.region ?_
    refine RG.pv rfl (PV.lss rfl rfl rfl) ?_
    refine RG.nil ?_
    refine WP.seq ?_
    have hol : os.length ≤ 16 := by
      have h6 := List.length_filter_le (fun w => !usedW d.rules.xs (erVs xs) w) (ws.take i)
      rw [List.length_take] at h6
      rw [hos]; omega
    refine WP.cond rfl (fun h5 => ?_) (fun h5 => ?_)
    · have h5 := of_decide_eq_true h5
      have hft := filter_step (fun w => !usedW d.rules.xs (erVs xs) w) (xs := ws) (i := i) (by omega)
      have hue := usedW_er d.rules.xs xs (gd ws i)
      refine WP.skip ?_
      refine WP.seq ?_
      refine WP.block ?_
      refine WP.seq ?_
      refine WP.region ?_
      refine RG.pv rfl (PV.idxS (v := w) rfl Is56 rfl (SlF.r h3) rfl rfl (by omega)) ?_
      refine RG.pv rfl (PV.loadE rfl Ag67 rfl rfl (El.r h3 (getG (by omega)))) ?_
      refine RG.ot rfl (OT.alloc rfl Zr67 fun b11 => ?_)
      refine RG.ot rfl (OT.storeW (vs := [vi _, .string _]) rfl Sz67 rfl rfl (Cl.c rfl) rfl rfl (OneC.c rfl) ?_)
      refine RG.nil ?_
      refine WP.seq ?_
      refine WP.region ?_
      refine RG.pv rfl (PV.move (v := u) rfl rfl) ?_
      refine RG.pv rfl (PV.mkf2 rfl rfl rfl) ?_
      refine RG.callF (vs := [u, _]) rfl rfl En84 rfl (containsF_viol (Rs.up h2) (p := fun v => decide (sigA d.rules.xs (erV v) = (gd ws i).sig)) (fun j hj => CB.mk2 En85 fun L' R c k => unused1_s (Rs.cv c h1.up) (Rs.cv c (hd.marker hj).up) (rep_facts hz hj).1 (rep_facts hz hj).2.1 (rep_facts hz hj).2.2.1 (rep_facts hz hj).2.2.2 (RdN.cv RdN.blk c) (RdN.cv RdN.blk c) k) ?_)
      refine RG.pv rfl (PV.not rfl rfl) ?_
      refine RG.nil ?_
      refine WP.cond rfl (fun h6 => ?_) (fun h6 => ?_)
      · have h7 : (!usedW d.rules.xs (erVs xs) (gd ws i)) = true := by rw [← hue]; exact h6
        rw [h7, if_pos rfl] at hft
        refine WP.region ?_
        refine RG.pv rfl (PV.move (v := q) rfl rfl) ?_
        refine RG.pv rfl (PV.loadW rfl Ag67 rfl rfl) ?_
        refine RG.ot rfl (OT.bslice (F := waiverT) (els := [_]) rfl El56 rfl (by decide) rfl (by decide) ⟨rfl, (Cl.c rfl), trivial⟩ fun v32 => ?_)
        refine RG.ot rfl (OT.append (v := q) (u := v32) (F := waiverT) rfl El56 rfl (by decide) rfl rfl Rs.o (OneL.c (fun _ => rfl)) rfl (by first | omega | (simp <;> omega)) fun v33 => ?_)
        refine RG.pv rfl (PV.asg (v := v33) rfl rfl) ?_
        refine RG.nil ?_
        refine WP.region ?_
        refine RG.pv rfl (PV.add rfl rfl rfl (by omega)) ?_
        refine RG.pv rfl (PV.mvI (.inl rfl) rfl) ?_
        refine RG.nil ?_
        exact ⟨rfl, i + 1, (os ++ [gd ws i]), v33, ⟨by omega, by rw [hft, ← hos]⟩, ⟨rfl, rfl, trivial⟩, ⟨rfl, rfl, rfl, rfl, trivial⟩, Cv.p, by omega⟩
      · have h7 : (!usedW d.rules.xs (erVs xs) (gd ws i)) = false := by rw [← hue]; exact h6
        rw [h7, if_neg (by decide), List.append_nil] at hft
        refine WP.skip ?_
        refine WP.region ?_
        refine RG.pv rfl (PV.add rfl rfl rfl (by omega)) ?_
        refine RG.pv rfl (PV.mvI (.inl rfl) rfl) ?_
        refine RG.nil ?_
        exact ⟨rfl, i + 1, os, q, ⟨by omega, by rw [hft]; exact hos⟩, ⟨rfl, rfl, trivial⟩, ⟨rfl, rfl, rfl, rfl, trivial⟩, Cv.p, by omega⟩
    · have h5 := of_decide_eq_false h5
      rw [List.take_of_length_le (by omega)] at hos
      rw [← hos] at k
      refine WP.exit ?_
      refine WP.seq ?_
      refine WP.region ?_
      refine RG.pv rfl (PV.move (v := q) rfl rfl) ?_
      refine RG.pv rfl (PV.asg (v := q) rfl rfl) ?_
      refine RG.pv rfl (PV.mvI (.inr rfl) rfl) ?_
      refine RG.nil ?_
      refine WP.ret ?_
      exact ⟨_, _, ResV.two rfl rfl rfl, Cv.p, k q⟩
end Go.Proofs.YtpjajhjcbcfplaaGreat
namespace Go.Proofs.YtpjajhjcbcfplaaGreat
set_option linter.unusedVariables false
set_option linter.unusedSimpArgs false
open Go
set_option maxRecDepth 20000
set_option linter.unusedSimpArgs false
variable {G : Gh} {L : List Ch} {R : Value → Gh → List Ch → Prop}
theorem copyV_i {v : Viol} (h1 : Rs G L rectT v.marker.v v.marker.xs) (hb : v.marker.xs.length ≤ 1048576) (k : ∀ v', R (vT violT ⟨v.rule, ⟨v', v.marker.xs⟩⟩) G (osl 71 rectT v' v.marker.xs :: L)) : CallT Tryz.prog 83 #[vT violT v] G L R := by
  refine CallT.enter (args := _) Tryz.func83 rfl rfl (by kernel_rfl) rfl ?_
  refine WP.seq ?_
  refine WP.region ?_
  refine RG.ot rfl (OT.box (cs := violT.enc v) rfl rfl rfl fun b1 => ?_)
  refine RG.ot rfl (OT.alloc rfl Zr63 fun b2 => ?_)
  refine RG.nil ?_
  refine WP.seq ?_
  refine WP.regionHD [.b b2] (.q 0 (.q 1 (.q 2 (.q 3 (.l 4 (.q 5 (.l 6 Sch.nil))))))) (by kernel_rfl) (by kernel_rfl) (by kernel_rfl) rfl ?_
  refine RH.pv rfl (fun _ _ _ _ h => h) (Gh.le_refl _) PickC.pick rfl (PV.field rfl Fo63_0 rfl) ?_
  refine RH.pv rfl (fun _ _ _ _ h => h) (Gh.le_refl _) PickC.pick rfl (PV.load1 rfl Sc2 rfl (Rd.blk rfl)) ?_
  refine RH.pv rfl (fun _ _ _ _ h => h) (Gh.le_refl _) PickC.pick rfl (PV.field rfl Fo63_1 rfl) ?_
  refine RH.pv rfl (fun _ _ _ _ h => h) (Gh.le_refl _) PickC.pick rfl (PV.load1 rfl Sc28 rfl (Rd.blk rfl)) ?_
  refine RH.ot rfl rfl (OT.callF (vs := [_]) rfl En141 rfl (clone_rects (Rs.up h1) hb (fun v7 => ⟨Gh.le_refl _, PickC.pick, ?_⟩)))
  refine RH.up1 ?_
  refine RH.pv rfl (fun _ _ _ _ h => h) (Gh.le_refl _) PickC.pick rfl (PV.build (vs := [(0, [vi _]), (1, [v7])]) (out := [_, _]) rfl Zr63 Pl63 ⟨rfl, (Cl.c rfl), ⟨rfl, (Cl.s (v := v7) SlF.o), trivial⟩⟩ rfl) ?_
  refine RH.ot rfl rfl (OT.storeW (vs := [vi _, _]) rfl Sz63 rfl rfl (Cl.c rfl) rfl rfl (OneC.val rfl (OneC.sl SlF.o OneC.nil)) ⟨Gh.le_refl _, PickC.pick, ?_⟩)
  refine RH.nil ?_
  refine WP.ret ?_
  exact ⟨_, _, ResV.one rfl (RV1.cell rfl Ag63 rfl), Cv.p, k v7⟩
theorem copyV_r {v : Viol} (h1 : Rs G L rectT v.marker.v v.marker.xs) (hb : v.marker.xs.length ≤ 1048576) (k : ∀ v', R (vT violT ⟨v.rule, ⟨v', v.marker.xs⟩⟩) G (osl 71 rectT v' v.marker.xs :: L)) : CallT Tryz.prog 73 #[vT violT v] G L R := by
  refine CallT.enter (args := _) Tryz.func73 rfl rfl (by kernel_rfl) rfl ?_
  refine WP.seq ?_
  refine WP.region ?_
  refine RG.ot rfl (OT.box (cs := violT.enc v) rfl rfl rfl fun b1 => ?_)
  refine RG.ot rfl (OT.alloc rfl Zr63 fun b2 => ?_)
  refine RG.nil ?_
  refine WP.seq ?_
  refine WP.regionHD [.b b2] (.q 0 (.q 1 (.q 3 (.q 4 (.l 2 (.l 5 (.q 6 (.l 7 Sch.nil)))))))) (by kernel_rfl) (by kernel_rfl) (by kernel_rfl) rfl ?_
  refine RH.pv rfl (fun _ _ _ _ h => h) (Gh.le_refl _) PickC.pick rfl (PV.field rfl Fo63_0 rfl) ?_
  refine RH.pv rfl (fun _ _ _ _ h => h) (Gh.le_refl _) PickC.pick rfl (PV.load1 rfl Sc2 rfl (Rd.blk rfl)) ?_
  refine RH.pv rfl (fun _ _ _ _ h => h) (Gh.le_refl _) PickC.pick rfl (PV.field rfl Fo63_1 rfl) ?_
  refine RH.pv rfl (fun _ _ _ _ h => h) (Gh.le_refl _) PickC.pick rfl (PV.load1 rfl Sc28 rfl (Rd.blk rfl)) ?_
  refine RH.ot rfl rfl (OT.bslice (F := rectT) (els := []) rfl El28 rfl (by decide) rfl (by decide) trivial fun v5 => ⟨Gh.le_refl _, PickC.pick, ?_⟩)
  refine RH.ot rfl rfl (OT.append (v := v5) (F := rectT) rfl El28 rfl (by decide) rfl rfl (Rs.up h1) (OneL.c (fun _ => rfl)) rfl (by first | omega | (simp <;> omega)) fun v8 => ⟨Gh.le_refl _, PickC.pick, ?_⟩)
  refine RH.up1 ?_
  refine RH.pv rfl (fun _ _ _ _ h => h) (Gh.le_refl _) PickC.pick rfl (PV.build (vs := [(0, [vi _]), (1, [v8])]) (out := [_, _]) rfl Zr63 Pl63 ⟨rfl, (Cl.c rfl), ⟨rfl, (Cl.s (v := v8) SlF.o), trivial⟩⟩ rfl) ?_
  refine RH.ot rfl rfl (OT.storeW (vs := [vi _, _]) rfl Sz63 rfl rfl (Cl.c rfl) rfl rfl (OneC.val rfl (OneC.sl SlF.o OneC.nil)) ⟨Gh.le_refl _, PickC.pick, ?_⟩)
  refine RH.nil ?_
  refine WP.ret ?_
  exact ⟨_, _, ResV.one rfl (RV1.cell rfl Ag63 rfl), ((Cv.p (C := osl 71 rectT v8 ([] ++ v.marker.xs) :: L)).trans (Cv.eqS (List.nil_append _))), k v8⟩
def hasW (ws : List Waiver) (n : Int) : Bool := ws.any fun w => decide (w.sig = n)
theorem waives1_s {w : Waiver} {b : Nat} {n : Int} (hc : Rd G L b 0 (vi n)) (k : R (.bool (decide (w.sig = n))) G L) : CallT Tryz.prog 136 #[vwaiver w, .pointer (some ⟨b, 0, none⟩)] G L R := by
  refine CallT.enter (args := _) Tryz.func136 rfl rfl (by kernel_rfl) rfl ?_
  refine WP.seq ?_
  refine WP.region ?_
  refine RG.ot rfl (OT.box (cs := waiverT.enc w) rfl rfl rfl fun b2 => ?_)
  refine RG.pv rfl (PV.mvB (.inr rfl) rfl) ?_
  refine RG.nil ?_
  refine WP.seq ?_
  refine WP.region ?_
  refine RG.pv rfl (PV.field rfl Fo67_0 rfl) ?_
  refine RG.pv rfl (PV.load1 rfl Sc2 rfl (Rd.blk rfl)) ?_
  refine RG.pv rfl (PV.load1 rfl Sc2 rfl (Rd.up hc)) ?_
  refine RG.pv rfl (PV.eql rfl rfl rfl) ?_
  refine RG.pv rfl (PV.mvB (.inr rfl) rfl) ?_
  refine RG.nil ?_
  refine WP.ret ?_
  exact ⟨_, _, ResV.one rfl rfl, Cv.p, k⟩
theorem indexF_waiver {v fv : Value} {xs : List (Waiver)} {p : (Waiver) → Bool} (h1 : Rs G L waiverT v xs) (hf : ∀ i, i < xs.length → CB Tryz.prog G L fv [vwaiver (gd xs i)] (.bool (p (gd xs i)))) (k : R (vi (idxI p xs)) G L) : CallT Tryz.prog 181 #[v, fv] G L R := by
  refine CallT.bd h1 fun hb => ?_
  refine CallT.enter (args := _) Tryz.func181 rfl rfl (by kernel_rfl) rfl ?_
  refine WP.seq ?_
  refine WP.region ?_
  refine RG.pv rfl (PV.mvI (.inr rfl) rfl) ?_
  refine RG.nil ?_
  refine WP.seq ?_
  refine WP.seq ?_
  refine WP.region ?_
  refine RG.pv rfl (PV.move (v := v) rfl rfl) ?_
  refine RG.pv rfl (PV.len (v := v) rfl Tryz.underlying56 rfl (SlF.r h1)) ?_
  refine RG.pv rfl (PV.mvI (.inl rfl) rfl) ?_
  refine RG.nil ?_
  refine WP.block ?_
  refine WP.loop1 [0, 1, 7] (fun i => i ≤ xs.length ∧ ∀ j, j < i → p (gd xs j) = false) (fun i => [(8, vi i)]) (fun i => L) (fun i => xs.length - i) 0 ⟨by omega, fun j h => by omega⟩ ⟨rfl, trivial⟩ Cv.p ?_
  rintro i τ ⟨hi, hj⟩
  refine WP.seq ?_
  refine WP.region ?_
  refine RG.pv rfl (PV.lss rfl rfl rfl) ?_
  refine RG.nil ?_
  refine WP.seq ?_
  refine WP.cond rfl (fun h2 => ?_) (fun h2 => ?_)
  · have h2 := of_decide_eq_true h2
    refine WP.skip ?_
    refine WP.seq ?_
    refine WP.block ?_
    refine WP.seq ?_
    refine WP.region ?_
    refine RG.pv rfl (PV.mvI (.inl rfl) rfl) ?_
    refine RG.pv rfl (PV.mvI (.inr rfl) rfl) ?_
    refine RG.nil ?_
    refine WP.seq ?_
    refine WP.region ?_
    refine RG.pv rfl (PV.move (v := fv) rfl rfl) ?_
    refine RG.pv rfl (PV.move (v := v) rfl rfl) ?_
    refine RG.pv rfl (PV.mvI (.inl rfl) rfl) ?_
    refine RG.pv rfl (PV.idxS (v := v) rfl Is56 rfl (SlF.r h1) rfl rfl (by omega)) ?_
    refine RG.pv rfl (PV.loadE rfl Ag67 rfl rfl (El.r h1 (getG (by omega)))) ?_
    refine RG.callB (vs := [_]) rfl rfl rfl rfl (CB.up (hf i (by omega))) ?_
    refine RG.nil ?_
    refine WP.cond rfl (fun h3 => ?_) (fun h3 => ?_)
    · rw [idxI_at (by omega) h3 hj] at k
      refine WP.seq ?_
      refine WP.region ?_
      refine RG.pv rfl (PV.mvI (.inl rfl) rfl) ?_
      refine RG.pv rfl (PV.mvI (.inr rfl) rfl) ?_
      refine RG.nil ?_
      refine WP.ret ?_
      exact ⟨_, _, ResV.one rfl rfl, Cv.p, k⟩
    · have hj' : ∀ j, j < i + 1 → p (gd xs j) = false := fun j h => by
        by_cases c : j = i
        · rw [c]; exact h3
        · exact hj j (by omega)
      refine WP.skip ?_
      refine WP.region ?_
      refine RG.pv rfl (PV.add rfl rfl rfl (by omega)) ?_
      refine RG.pv rfl (PV.mvI (.inl rfl) rfl) ?_
      refine RG.nil ?_
      exact ⟨rfl, i + 1, ⟨by omega, hj'⟩, ⟨rfl, trivial⟩, ⟨rfl, rfl, rfl, trivial⟩, Cv.p, by omega⟩
  · have h2 := of_decide_eq_false h2
    rw [idxI_none (fun j h => hj j (by omega))] at k
    refine WP.exit ?_
    refine WP.seq ?_
    refine WP.region ?_
    refine RG.pv rfl (PV.mvI (.inr rfl) rfl) ?_
    refine RG.nil ?_
    refine WP.ret ?_
    exact ⟨_, _, ResV.one rfl rfl, Cv.p, k⟩
theorem containsF_waiver {v fv : Value} {xs : List (Waiver)} {p : (Waiver) → Bool} (h1 : Rs G L waiverT v xs) (hf : ∀ i, i < xs.length → CB Tryz.prog G L fv [vwaiver (gd xs i)] (.bool (p (gd xs i)))) (k : R (.bool (xs.any p)) G L) : CallT Tryz.prog 135 #[v, fv] G L R := by
  rw [← idxI_any] at k
  refine CallT.enter (args := _) Tryz.func135 rfl rfl (by kernel_rfl) rfl ?_
  refine WP.seq ?_
  refine WP.region ?_
  refine RG.pv rfl (PV.mvB (.inr rfl) rfl) ?_
  refine RG.nil ?_
  refine WP.seq ?_
  refine WP.region ?_
  refine RG.pv rfl (PV.move (v := v) rfl rfl) ?_
  refine RG.pv rfl (PV.move (v := fv) rfl rfl) ?_
  refine RG.callF (vs := [v, fv]) rfl rfl En181 rfl (indexF_waiver (Rs.up h1) (fun i hi => (hf i hi).up) ?_)
  refine RG.pv rfl (PV.geq rfl rfl rfl) ?_
  refine RG.pv rfl (PV.mvB (.inr rfl) rfl) ?_
  refine RG.nil ?_
  refine WP.ret ?_
  exact ⟨_, _, ResV.one rfl rfl, Cv.p, k⟩
theorem waives_s {v : Value} {ws : List Waiver} {n : Int} (h1 : Rs G L waiverT v ws) (k : R (.bool (hasW ws n)) G L) : CallT Tryz.prog 79 #[v, vi n] G L R := by
  refine CallT.enter (args := _) Tryz.func79 rfl rfl (by kernel_rfl) rfl ?_
  refine WP.seq ?_
  refine WP.region ?_
  refine RG.ot rfl (OT.box (cs := [vi n]) rfl rfl rfl fun b3 => ?_)
  refine RG.pv rfl (PV.mvB (.inr rfl) rfl) ?_
  refine RG.nil ?_
  refine WP.seq ?_
  refine WP.region ?_
  refine RG.pv rfl (PV.move (v := v) rfl rfl) ?_
  refine RG.pv rfl (PV.mkf1 rfl rfl) ?_
  refine RG.callF (vs := [v, _]) rfl rfl En135 rfl (containsF_waiver (Rs.up h1) (p := fun w => decide (w.sig = n)) (fun i hi => CB.mk1 En136 fun L' R c k => waives1_s (Rd.cv (Rd.blk rfl) c) k) ?_)
  refine RG.pv rfl (PV.mvB (.inr rfl) rfl) ?_
  refine RG.nil ?_
  refine WP.ret ?_
  exact ⟨_, _, ResV.one rfl rfl, Cv.p, k⟩
theorem l22Has_s {v : Value} {ws : List Waiver} {n : Int} (h1 : Rs G L waiverT v ws) (k : R (.bool (hasW ws n)) G L) : CallT Tryz.prog 71 #[v, vi n] G L R := by
  refine CallT.bd h1 fun hb => ?_
  refine CallT.enter (args := _) Tryz.func71 rfl rfl (by kernel_rfl) rfl ?_
  refine WP.seq ?_
  refine WP.region ?_
  refine RG.pv rfl (PV.mvB (.inr rfl) rfl) ?_
  refine RG.nil ?_
  refine WP.seq ?_
  refine WP.seq ?_
  refine WP.region ?_
  refine RG.pv rfl (PV.mvI (.inr rfl) rfl) ?_
  refine RG.nil ?_
  refine WP.block ?_
  refine WP.loop1 [0, 1] (fun i => i ≤ ws.length ∧ ∀ j, j < i → decide ((gd ws j).sig = n) = false) (fun i => [(5, vi i)]) (fun i => L) (fun i => ws.length - i) 0 ⟨by omega, fun j h => by omega⟩ ⟨rfl, trivial⟩ Cv.p ?_
  rintro i τ ⟨hi, hj⟩
  refine WP.seq ?_
  refine WP.seq ?_
  refine WP.region ?_
  refine RG.pv rfl (PV.mvI (.inl rfl) rfl) ?_
  refine RG.pv rfl (PV.move (v := v) rfl rfl) ?_
  refine RG.pv rfl (PV.len (v := v) rfl Tryz.underlying56 rfl (SlF.r h1)) ?_
  refine RG.pv rfl (PV.lss rfl rfl rfl) ?_
  refine RG.nil ?_
  refine WP.cond rfl (fun h2 => ?_) (fun h2 => ?_)
  · have h2 := of_decide_eq_true h2
    refine WP.skip ?_
    refine WP.seq ?_
    refine WP.block ?_
    refine WP.seq ?_
    refine WP.region ?_
    refine RG.pv rfl (PV.move (v := v) rfl rfl) ?_
    refine RG.pv rfl (PV.mvI (.inl rfl) rfl) ?_
    refine RG.pv rfl (PV.idxS (v := v) rfl Is56 rfl (SlF.r h1) rfl rfl (by omega)) ?_
    refine RG.pv rfl (PV.field rfl Fo67_0 rfl) ?_
    refine RG.pv rfl (PV.loadF rfl Sc2 rfl rfl (El.r h1 (getG (by omega))) rfl) ?_
    refine RG.pv rfl (PV.mvI (.inl rfl) rfl) ?_
    refine RG.pv rfl (PV.eql rfl rfl rfl) ?_
    refine RG.nil ?_
    refine WP.cond rfl (fun h3 => ?_) (fun h3 => ?_)
    · have e : hasW ws n = true := List.any_eq_true.2 ⟨gd ws i, by rw [gd_eq (by omega)]; exact List.getElem_mem _, h3⟩
      rw [e] at k
      refine WP.seq ?_
      refine WP.region ?_
      refine RG.pv rfl (PV.mvB (.inr rfl) rfl) ?_
      refine RG.nil ?_
      refine WP.ret ?_
      exact ⟨_, _, ResV.one rfl rfl, Cv.p, k⟩
    · have hj' : ∀ j, j < i + 1 → decide ((gd ws j).sig = n) = false := fun j h => by
        by_cases c : j = i
        · rw [c]; exact h3
        · exact hj j (by omega)
      refine WP.skip ?_
      refine WP.region ?_
      refine RG.pv rfl (PV.mvI (.inl rfl) rfl) ?_
      refine RG.pv rfl (PV.add rfl rfl rfl (by omega)) ?_
      refine RG.pv rfl (PV.mvI (.inr rfl) rfl) ?_
      refine RG.nil ?_
      exact ⟨rfl, i + 1, ⟨by omega, hj'⟩, ⟨rfl, trivial⟩, ⟨rfl, rfl, trivial⟩, Cv.p, by omega⟩
  · have h2 := of_decide_eq_false h2
    have e : hasW ws n = false := by
      rw [hasW, List.any_eq_false]
      intro r hr
      obtain ⟨j, hj2, rfl⟩ := List.getElem_of_mem hr
      have := hj j (by omega)
      rw [gd_eq hj2] at this
      simpa using this
    rw [e] at k
    refine WP.exit ?_
    refine WP.seq ?_
    refine WP.region ?_
    refine RG.pv rfl (PV.mvB (.inr rfl) rfl) ?_
    refine RG.nil ?_
    refine WP.ret ?_
    exact ⟨_, _, ResV.one rfl rfl, Cv.p, k⟩
def isWv (rs : List Rule) (ws : List Waiver) (v : Int × List Rect) : Bool := hasW ws (sigA rs v)
noncomputable def keptR (rs : List Rule) (E : List (Int × List Rect)) (ws : List Waiver) : List (Int × List Rect) := if wCode rs E ws = 0 then E.filter (fun v => !isWv rs ws v) else []
noncomputable def waivR (rs : List Rule) (E : List (Int × List Rect)) (ws : List Waiver) : List (Int × List Rect) := if wCode rs E ws = 0 then E.filter (isWv rs ws) else []
theorem mks_app (xs ys : List Viol) : mks (xs ++ ys) = mks xs ++ mks ys := by simp [mks]
theorem erVs_app (xs ys : List Viol) : erVs (xs ++ ys) = erVs xs ++ erVs ys := by simp [erVs]
theorem apply_i {d : Deck} {u w : Value} {xs : List Viol} {ws : List Waiver} (h1 : Rs G L ruleT d.rules.v d.rules.xs) (h2 : Rs G L violT u xs) (hd : RsE G L rectT (mks xs)) (h3 : Rs G L waiverT w ws) (hlen : ∀ i, i < ws.length → (gd ws i).reason.size ≤ 9223372036854775807)
    (k : ∀ v' u' ks us, erVs ks = keptR d.rules.xs (erVs xs) ws → erVs us = waivR d.rules.xs (erVs xs) ws → R (.tuple #[v', u', vi (wCode d.rules.xs (erVs xs) ws)]) G (osl 63 violT v' ks :: bagS 71 rectT (mks ks) :: osl 63 violT u' us :: bagS 71 rectT (mks us) :: L)) :
    CallT Tryz.prog 33 #[vT deckT d, u, w] G L R := by
  refine CallT.bd h3 fun hb0 => ?_
  refine CallT.bd h2 fun hb1 => ?_
  refine CallT.enter (args := _) Tryz.func33 rfl rfl (by kernel_rfl) rfl ?_
  refine WP.seq ?_
  refine WP.region ?_
  refine RG.ot rfl (OT.box (cs := deckT.enc d) rfl rfl rfl fun b3 => ?_)
  refine RG.pv rfl (PV.asg rfl rfl) ?_
  refine RG.pv rfl (PV.asg rfl rfl) ?_
  refine RG.pv rfl (PV.mvI (.inr rfl) rfl) ?_
  refine RG.nil ?_
  refine WP.seq ?_
  refine WP.seq ?_
  refine WP.region ?_
  refine RG.pv rfl (PV.loadW rfl Ag54 rfl rfl) ?_
  refine RG.pv rfl (PV.move (v := u) rfl rfl) ?_
  refine RG.pv rfl (PV.move (v := w) rfl rfl) ?_
  refine RG.callF (vs := [_, u, w]) rfl rfl En82 rfl (wcode_i h1.up h2.up hd.up h3.up hlen ?_)
  refine RG.pv rfl (PV.mvI (.inr rfl) rfl) ?_
  refine RG.nil ?_
  refine WP.seq ?_
  refine WP.region ?_
  refine RG.pv rfl (PV.mvI (.inl rfl) rfl) ?_
  refine RG.pv rfl (PV.neq rfl rfl rfl) ?_
  refine RG.nil ?_
  refine WP.cond rfl (fun h4 => ?_) (fun h4 => ?_)
  · have hz : wCode d.rules.xs (erVs xs) ws ≠ 0 := by simpa using h4
    have e : keptR d.rules.xs (erVs xs) ws = [] := by rw [keptR, if_neg hz]
    have e2 : waivR d.rules.xs (erVs xs) ws = [] := by rw [waivR, if_neg hz]
    rw [e, e2] at k
    refine WP.seq ?_
    refine WP.region ?_
    refine RG.pv rfl (PV.mvI (.inl rfl) rfl) ?_
    refine RG.pv rfl (PV.asg rfl rfl) ?_
    refine RG.pv rfl (PV.asg rfl rfl) ?_
    refine RG.pv rfl (PV.mvI (.inr rfl) rfl) ?_
    refine RG.nil ?_
    refine WP.ret ?_
    exact ⟨_, _, ResV.three rfl rfl rfl rfl, ((Cv.p (C := L)).trans ((Cv.bag0 (e := 71) (F := rectT) (xs := mks []) rfl).trans ((Cv.nilS (e := 63) (F := violT)).trans ((Cv.bag0 (e := 71) (F := rectT) (xs := mks []) rfl).trans (Cv.nilS (e := 63) (F := violT)))))), k (.slice none 0 0) (.slice none 0 0) [] [] rfl rfl⟩
  · have hz : wCode d.rules.xs (erVs xs) ws = 0 := by simpa using h4
    have e : keptR d.rules.xs (erVs xs) ws = (erVs xs).filter (fun v => !isWv d.rules.xs ws v) := by rw [keptR, if_pos hz]
    have e2 : waivR d.rules.xs (erVs xs) ws = (erVs xs).filter (isWv d.rules.xs ws) := by rw [waivR, if_pos hz]
    rw [e, e2, hz] at k
    have hel := erVs_len xs
    have hrl : xs.length ≤ 256 := by rw [← hel]; exact rep_len (wCode_zero hz).2.1
    refine WP.skip ?_
    refine WP.seq ?_
    refine WP.region ?_
    refine RG.ot rfl (OT.bslice (F := violT) (els := []) rfl El55 rfl (by decide) rfl (by decide) trivial fun v21 => ?_)
    refine RG.ot rfl (OT.bslice (F := violT) (els := []) rfl El55 rfl (by decide) rfl (by decide) trivial fun v22 => ?_)
    refine RG.pv rfl (PV.asg (v := v21) rfl rfl) ?_
    refine RG.pv rfl (PV.asg (v := v22) rfl rfl) ?_
    refine RG.nil ?_
    refine WP.seq ?_
    refine WP.seq ?_
    refine WP.region ?_
    refine RG.pv rfl (PV.move (v := u) rfl rfl) ?_
    refine RG.pv rfl (PV.len (v := u) rfl Tryz.underlying55 rfl (SlF.r h2)) ?_
    refine RG.pv rfl (PV.mvI (.inl rfl) rfl) ?_
    refine RG.nil ?_
    refine WP.block ?_
    refine WP.cv ((Cv.p (C := osl 63 violT v21 ([] : List Viol) :: osl 63 violT v22 ([] : List Viol) :: blk b3 54 (deckT.enc d) :: L)).trans ((Cv.bag0 (e := 71) (F := rectT) (xs := mks []) rfl).trans ((Cv.bag0 (e := 71) (F := rectT) (xs := mks []) rfl).trans (Cv.pick (.cons (.tail _ (.tail _ (.head _ _))) (.cons (.head _ _) (.cons (.tail _ (.head _ _)) (.cons (.head _ _) (.refl _))))))))) ?_
    refine WP.loop5 [2, 3, 23, 24] (fun (i : Nat) (ks us : List Viol) (q p : Value) => i ≤ xs.length ∧ erVs ks = ((erVs xs).take i).filter (fun v => !isWv d.rules.xs ws v) ∧ erVs us = ((erVs xs).take i).filter (isWv d.rules.xs ws)) (fun (i : Nat) (ks us : List Viol) (q p : Value) => [(25, vi i), (10, q), (11, p)]) (fun (i : Nat) (ks us : List Viol) (q p : Value) => osl 63 violT q ks :: bagS 71 rectT (mks ks) :: osl 63 violT p us :: bagS 71 rectT (mks us) :: blk b3 54 (deckT.enc d) :: L) (fun (i : Nat) (ks us : List Viol) (q p : Value) => xs.length - i) 0 [] [] v21 v22 ⟨by omega, rfl, rfl⟩ ⟨rfl, rfl, rfl, trivial⟩ Cv.p ?_
    rintro i ks us q p τ ⟨hi, hks, hus⟩
    refine WP.seq ?_
    refine WP.region ?_
    refine RG.pv rfl (PV.lss rfl rfl rfl) ?_
    refine RG.nil ?_
    refine WP.seq ?_
    have hkl : ks.length ≤ 256 := by
      have h6 := List.length_filter_le (fun v => !isWv d.rules.xs ws v) ((erVs xs).take i)
      rw [← hks, erVs_len, List.length_take] at h6; omega
    have hul : us.length ≤ 256 := by
      have h6 := List.length_filter_le (isWv d.rules.xs ws) ((erVs xs).take i)
      rw [← hus, erVs_len, List.length_take] at h6; omega
    refine WP.cond rfl (fun h5 => ?_) (fun h5 => ?_)
    · have h5 := of_decide_eq_true h5
      have hpr : Rs G L rectT (gd xs i).marker.v (gd xs i).marker.xs := hd.marker (by omega)
      have hrf := rep_facts hz (i := i) (by omega)
      have hrg := isReg_len hrf.2.2.1
      have f1 := filter_step (fun v => !isWv d.rules.xs ws v) (xs := erVs xs) (i := i) (by omega)
      have f2 := filter_step (isWv d.rules.xs ws) (xs := erVs xs) (i := i) (by omega)
      rw [erVs_gd (by omega)] at f1 f2
      refine WP.skip ?_
      refine WP.seq ?_
      refine WP.block ?_
      refine WP.seq ?_
      refine WP.region ?_
      refine RG.pv rfl (PV.idxS (v := u) rfl Is55 rfl (SlF.r h2) rfl rfl (by omega)) ?_
      refine RG.pv rfl (PV.loadE rfl Ag63 rfl rfl (El.r h2 (getG (by omega)))) ?_
      refine RG.ot rfl (OT.alloc rfl Zr63 fun b13 => ?_)
      refine RG.ot rfl (OT.storeW (vs := [vi _, _]) rfl Sz63 rfl rfl (Cl.c rfl) rfl rfl (OneC.val rfl (OneC.sl (SlF.r hpr) OneC.nil)) ?_)
      refine RG.nil ?_
      refine WP.seq ?_
      refine WP.region ?_
      refine RG.pv rfl (PV.move (v := w) rfl rfl) ?_
      refine RG.pv rfl (PV.loadW rfl Ag54 rfl rfl) ?_
      refine RG.pv rfl (PV.loadW rfl Ag63 rfl rfl) ?_
      refine RG.callF (vs := [_, _]) rfl rfl En76 rfl (sigV_i h1.up hpr.up hrf.1 hrf.2.1 hrf.2.2.1 hrf.2.2.2 ?_)
      refine RG.callF (vs := [w, _]) rfl rfl En79 rfl (waives_s (Rs.up h3) ?_)
      refine RG.nil ?_
      refine WP.cond rfl (fun h6 => ?_) (fun h6 => ?_)
      · have h7 : isWv d.rules.xs ws (erV (gd xs i)) = true := h6
        rw [h7] at f1 f2
        refine WP.region ?_
        refine RG.pv rfl (PV.move (v := p) rfl rfl) ?_
        refine RG.pv rfl (PV.loadW rfl Ag63 rfl rfl) ?_
        refine RG.callF (vs := [_]) rfl rfl En83 rfl (copyV_i hpr.up (by omega) (fun w36 => ?_))
        refine RG.ot rfl (OT.bslice (F := violT) (els := [⟨(gd xs i).rule, ⟨w36, (gd xs i).marker.xs⟩⟩]) rfl El55 rfl (by decide) rfl (by decide) ⟨rfl, (Cl.c rfl), trivial⟩ fun v37 => ?_)
        refine RG.ot rfl (OT.append (v := p) (u := v37) (F := violT) rfl El55 rfl (by decide) rfl rfl Rs.o (OneL.one (OneC.val rfl (OneC.sl SlF.o OneC.nil))) rfl (by first | omega | (simp <;> omega)) fun v38 => ?_)
        refine RG.pv rfl (PV.asg (v := v38) rfl rfl) ?_
        refine RG.nil ?_
        refine WP.region ?_
        refine RG.pv rfl (PV.add rfl rfl rfl (by omega)) ?_
        refine RG.pv rfl (PV.mvI (.inl rfl) rfl) ?_
        refine RG.nil ?_
        exact ⟨rfl, i + 1, ks, (us ++ [⟨(gd xs i).rule, ⟨w36, (gd xs i).marker.xs⟩⟩]), q, v38, ⟨by omega, by rw [f1]; simpa using hks, by rw [f2, erVs_app, hus]; rfl⟩, ⟨rfl, rfl, rfl, trivial⟩, ⟨rfl, rfl, rfl, rfl, trivial⟩, ((Cv.p (C := osl 71 rectT w36 (gd xs i).marker.xs :: bagS 71 rectT (mks us) :: osl 63 violT q ks :: bagS 71 rectT (mks ks) :: osl 63 violT v38 (us ++ [⟨(gd xs i).rule, ⟨w36, (gd xs i).marker.xs⟩⟩]) :: blk b3 54 (deckT.enc d) :: L)).trans ((Cv.grow (ys' := mks (us ++ [⟨(gd xs i).rule, ⟨w36, (gd xs i).marker.xs⟩⟩])) (by rw [mks_app]; rfl)).trans Cv.p)), by omega⟩
      · have h7 : isWv d.rules.xs ws (erV (gd xs i)) = false := h6
        rw [h7] at f1 f2
        refine WP.region ?_
        refine RG.pv rfl (PV.move (v := q) rfl rfl) ?_
        refine RG.pv rfl (PV.loadW rfl Ag63 rfl rfl) ?_
        refine RG.callF (vs := [_]) rfl rfl En83 rfl (copyV_i hpr.up (by omega) (fun w41 => ?_))
        refine RG.ot rfl (OT.bslice (F := violT) (els := [⟨(gd xs i).rule, ⟨w41, (gd xs i).marker.xs⟩⟩]) rfl El55 rfl (by decide) rfl (by decide) ⟨rfl, (Cl.c rfl), trivial⟩ fun v42 => ?_)
        refine RG.ot rfl (OT.append (v := q) (u := v42) (F := violT) rfl El55 rfl (by decide) rfl rfl Rs.o (OneL.one (OneC.val rfl (OneC.sl SlF.o OneC.nil))) rfl (by first | omega | (simp <;> omega)) fun v43 => ?_)
        refine RG.pv rfl (PV.asg (v := v43) rfl rfl) ?_
        refine RG.nil ?_
        refine WP.region ?_
        refine RG.pv rfl (PV.add rfl rfl rfl (by omega)) ?_
        refine RG.pv rfl (PV.mvI (.inl rfl) rfl) ?_
        refine RG.nil ?_
        exact ⟨rfl, i + 1, (ks ++ [⟨(gd xs i).rule, ⟨w41, (gd xs i).marker.xs⟩⟩]), us, v43, p, ⟨by omega, by rw [f1, erVs_app, hks]; rfl, by rw [f2]; simpa using hus⟩, ⟨rfl, rfl, rfl, trivial⟩, ⟨rfl, rfl, rfl, rfl, trivial⟩, ((Cv.p (C := osl 71 rectT w41 (gd xs i).marker.xs :: bagS 71 rectT (mks ks) :: osl 63 violT p us :: bagS 71 rectT (mks us) :: osl 63 violT v43 (ks ++ [⟨(gd xs i).rule, ⟨w41, (gd xs i).marker.xs⟩⟩]) :: blk b3 54 (deckT.enc d) :: L)).trans ((Cv.grow (ys' := mks (ks ++ [⟨(gd xs i).rule, ⟨w41, (gd xs i).marker.xs⟩⟩])) (by rw [mks_app]; rfl)).trans Cv.p)), by omega⟩
    · have h5 := of_decide_eq_false h5
      rw [List.take_of_length_le (by omega)] at hks hus
      refine WP.exit ?_
      refine WP.seq ?_
      refine WP.region ?_
      refine RG.pv rfl (PV.move (v := q) rfl rfl) ?_
      refine RG.pv rfl (PV.move (v := p) rfl rfl) ?_
      refine RG.pv rfl (PV.asg (v := q) rfl rfl) ?_
      refine RG.pv rfl (PV.asg (v := p) rfl rfl) ?_
      refine RG.pv rfl (PV.mvI (.inr rfl) rfl) ?_
      refine RG.nil ?_
      refine WP.ret ?_
      exact ⟨_, _, ResV.three rfl rfl rfl rfl, Cv.p, k q p ks us hks hus⟩
theorem apply_r {d : Deck} {u w : Value} {xs : List Viol} {ws : List Waiver} (h1 : Rs G L ruleT d.rules.v d.rules.xs) (h2 : Rs G L violT u xs) (hd : RsE G L rectT (mks xs)) (h3 : Rs G L waiverT w ws) (hlen : ∀ i, i < ws.length → (gd ws i).reason.size ≤ 9223372036854775807)
    (k : ∀ v' u' ks us, erVs ks = keptR d.rules.xs (erVs xs) ws → erVs us = waivR d.rules.xs (erVs xs) ws → R (.tuple #[v', u', vi (wCode d.rules.xs (erVs xs) ws)]) G (osl 63 violT v' ks :: bagS 71 rectT (mks ks) :: osl 63 violT u' us :: bagS 71 rectT (mks us) :: L)) :
    CallT Tryz.prog 30 #[vT deckT d, u, w] G L R := by
  refine CallT.bd h3 fun hb0 => ?_
  refine CallT.bd h2 fun hb1 => ?_
  refine CallT.enter (args := _) Tryz.func30 rfl rfl (by kernel_rfl) rfl ?_
  refine WP.seq ?_
  refine WP.region ?_
  refine RG.ot rfl (OT.box (cs := deckT.enc d) rfl rfl rfl fun b3 => ?_)
  refine RG.pv rfl (PV.asg rfl rfl) ?_
  refine RG.pv rfl (PV.asg rfl rfl) ?_
  refine RG.pv rfl (PV.mvI (.inr rfl) rfl) ?_
  refine RG.nil ?_
  refine WP.seq ?_
  refine WP.region ?_
  refine RG.pv rfl (PV.loadW rfl Ag54 rfl rfl) ?_
  refine RG.pv rfl (PV.move (v := u) rfl rfl) ?_
  refine RG.pv rfl (PV.move (v := w) rfl rfl) ?_
  refine RG.callF (vs := [_, u, w]) rfl rfl En70 rfl (wcode_r h1.up h2.up hd.up h3.up hlen ?_)
  refine RG.pv rfl (PV.mvI (.inr rfl) rfl) ?_
  refine RG.nil ?_
  refine WP.seq ?_
  refine WP.seq ?_
  refine WP.region ?_
  refine RG.pv rfl (PV.mvI (.inl rfl) rfl) ?_
  refine RG.pv rfl (PV.neq rfl rfl rfl) ?_
  refine RG.nil ?_
  refine WP.cond rfl (fun h4 => ?_) (fun h4 => ?_)
  · have hz : wCode d.rules.xs (erVs xs) ws ≠ 0 := by simpa using h4
    have e : keptR d.rules.xs (erVs xs) ws = [] := by rw [keptR, if_neg hz]
    have e2 : waivR d.rules.xs (erVs xs) ws = [] := by rw [waivR, if_neg hz]
    rw [e, e2] at k
    refine WP.seq ?_
    refine WP.region ?_
    refine RG.pv rfl (PV.mvI (.inl rfl) rfl) ?_
    refine RG.pv rfl (PV.asg rfl rfl) ?_
    refine RG.pv rfl (PV.asg rfl rfl) ?_
    refine RG.pv rfl (PV.mvI (.inr rfl) rfl) ?_
    refine RG.nil ?_
    refine WP.ret ?_
    exact ⟨_, _, ResV.three rfl rfl rfl rfl, ((Cv.p (C := L)).trans ((Cv.bag0 (e := 71) (F := rectT) (xs := mks []) rfl).trans ((Cv.nilS (e := 63) (F := violT)).trans ((Cv.bag0 (e := 71) (F := rectT) (xs := mks []) rfl).trans (Cv.nilS (e := 63) (F := violT)))))), k (.slice none 0 0) (.slice none 0 0) [] [] rfl rfl⟩
  · have hz : wCode d.rules.xs (erVs xs) ws = 0 := by simpa using h4
    have e : keptR d.rules.xs (erVs xs) ws = (erVs xs).filter (fun v => !isWv d.rules.xs ws v) := by rw [keptR, if_pos hz]
    have e2 : waivR d.rules.xs (erVs xs) ws = (erVs xs).filter (isWv d.rules.xs ws) := by rw [waivR, if_pos hz]
    rw [e, e2, hz] at k
    have hel := erVs_len xs
    have hrl : xs.length ≤ 256 := by rw [← hel]; exact rep_len (wCode_zero hz).2.1
    refine WP.skip ?_
    refine WP.seq ?_
    refine WP.region ?_
    refine RG.ot rfl (OT.bslice (F := violT) (els := []) rfl El55 rfl (by decide) rfl (by decide) trivial fun v20 => ?_)
    refine RG.pv rfl (PV.asg (v := v20) rfl rfl) ?_
    refine RG.nil ?_
    refine WP.seq ?_
    refine WP.region ?_
    refine RG.ot rfl (OT.bslice (F := violT) (els := []) rfl El55 rfl (by decide) rfl (by decide) trivial fun v21 => ?_)
    refine RG.pv rfl (PV.asg (v := v21) rfl rfl) ?_
    refine RG.nil ?_
    refine WP.seq ?_
    refine WP.seq ?_
    refine WP.region ?_
    refine RG.pv rfl (PV.mvI (.inr rfl) rfl) ?_
    refine RG.nil ?_
    refine WP.block ?_
    refine WP.cv ((Cv.p (C := osl 63 violT v20 ([] : List Viol) :: osl 63 violT v21 ([] : List Viol) :: blk b3 54 (deckT.enc d) :: L)).trans ((Cv.bag0 (e := 71) (F := rectT) (xs := mks []) rfl).trans ((Cv.bag0 (e := 71) (F := rectT) (xs := mks []) rfl).trans (Cv.pick (.cons (.tail _ (.tail _ (.head _ _))) (.cons (.head _ _) (.cons (.tail _ (.head _ _)) (.cons (.head _ _) (.refl _))))))))) ?_
    refine WP.loop5 [1, 2, 3] (fun (i : Nat) (ks us : List Viol) (q p : Value) => i ≤ xs.length ∧ erVs ks = ((erVs xs).take i).filter (fun v => !isWv d.rules.xs ws v) ∧ erVs us = ((erVs xs).take i).filter (isWv d.rules.xs ws)) (fun (i : Nat) (ks us : List Viol) (q p : Value) => [(12, vi i), (10, q), (11, p)]) (fun (i : Nat) (ks us : List Viol) (q p : Value) => osl 63 violT q ks :: bagS 71 rectT (mks ks) :: osl 63 violT p us :: bagS 71 rectT (mks us) :: blk b3 54 (deckT.enc d) :: L) (fun (i : Nat) (ks us : List Viol) (q p : Value) => xs.length - i) 0 [] [] v20 v21 ⟨by omega, rfl, rfl⟩ ⟨rfl, rfl, rfl, trivial⟩ Cv.p ?_
    rintro i ks us q p τ ⟨hi, hks, hus⟩
    refine WP.seq ?_
    refine WP.seq ?_
    refine WP.region ?_
    refine RG.pv rfl (PV.mvI (.inl rfl) rfl) ?_
    refine RG.pv rfl (PV.move (v := u) rfl rfl) ?_
    refine RG.pv rfl (PV.len (v := u) rfl Tryz.underlying55 rfl (SlF.r h2)) ?_
    refine RG.pv rfl (PV.lss rfl rfl rfl) ?_
    refine RG.nil ?_
    have hkl : ks.length ≤ 256 := by
      have h6 := List.length_filter_le (fun v => !isWv d.rules.xs ws v) ((erVs xs).take i)
      rw [← hks, erVs_len, List.length_take] at h6; omega
    have hul : us.length ≤ 256 := by
      have h6 := List.length_filter_le (isWv d.rules.xs ws) ((erVs xs).take i)
      rw [← hus, erVs_len, List.length_take] at h6; omega
    refine WP.cond rfl (fun h5 => ?_) (fun h5 => ?_)
    · have h5 := of_decide_eq_true h5
      have hpr : Rs G L rectT (gd xs i).marker.v (gd xs i).marker.xs := hd.marker (by omega)
      have hrf := rep_facts hz (i := i) (by omega)
      have hrg := isReg_len hrf.2.2.1
      have f1 := filter_step (fun v => !isWv d.rules.xs ws v) (xs := erVs xs) (i := i) (by omega)
      have f2 := filter_step (isWv d.rules.xs ws) (xs := erVs xs) (i := i) (by omega)
      rw [erVs_gd (by omega)] at f1 f2
      have hrf1 := hrf.1
      refine WP.skip ?_
      refine WP.seq ?_
      refine WP.block ?_
      refine WP.seq ?_
      refine WP.regionQ (by kernel_rfl) (by kernel_rfl) ?_
      refine RQ.pv rfl (PV.move (v := w) rfl rfl) ?_
      refine RQ.pv rfl (PV.field rfl Fo54_0 rfl) ?_
      refine RQ.pv rfl (PV.load1 rfl Sc52 rfl (Rd.blk rfl)) ?_
      refine RQ.pv rfl (PV.move (v := u) rfl rfl) ?_
      refine RQ.pv rfl (PV.mvI (.inl rfl) rfl) ?_
      refine RQ.pv rfl (PV.idxS (v := u) rfl Is55 rfl (SlF.r h2) rfl rfl (by omega)) ?_
      refine RQ.pv rfl (PV.field rfl Fo63_0 rfl) ?_
      refine RQ.pv rfl (PV.loadF rfl Sc2 rfl rfl (El.r h2 (getG (by omega))) rfl) ?_
      refine RQ.pv rfl (PV.idxS (j := (gd xs i).rule.toNat) rfl Is52 rfl (SlF.r h1) rfl (by omega) (by omega)) ?_
      refine RQ.pv rfl (PV.loadE rfl Ag34 rfl rfl (El.r h1 (getG (by omega)))) ?_
      refine RQ.pv rfl (PV.move (v := u) rfl rfl) ?_
      refine RQ.pv rfl (PV.mvI (.inl rfl) rfl) ?_
      refine RQ.pv rfl (PV.idxS (v := u) rfl Is55 rfl (SlF.r h2) rfl rfl (by omega)) ?_
      refine RQ.pv rfl (PV.field rfl Fo63_1 rfl) ?_
      refine RQ.pv rfl (PV.loadF rfl Sc28 rfl rfl (El.r h2 (getG (by omega))) rfl) ?_
      refine RQ.callF (vs := [_, _]) rfl rfl En72 rfl (l22Sig_s hpr.up hrf.2.1 hrf.2.2.1 hrf.2.2.2 ⟨rfl, rfl, rfl⟩) ?_
      refine RQ.callF (vs := [w, _]) rfl rfl En71 rfl (l22Has_s (Rs.up h3) ⟨rfl, rfl, rfl⟩) ?_
      refine RQ.nil ?_
      refine WP.cond rfl (fun h6 => ?_) (fun h6 => ?_)
      · have h7 : isWv d.rules.xs ws (erV (gd xs i)) = true := h6
        rw [h7] at f1 f2
        refine WP.region ?_
        refine RG.pv rfl (PV.move (v := p) rfl rfl) ?_
        refine RG.pv rfl (PV.move (v := u) rfl rfl) ?_
        refine RG.pv rfl (PV.mvI (.inl rfl) rfl) ?_
        refine RG.pv rfl (PV.idxS (v := u) rfl Is55 rfl (SlF.r h2) rfl rfl (by omega)) ?_
        refine RG.pv rfl (PV.loadE rfl Ag63 rfl rfl (El.r h2 (getG (by omega)))) ?_
        refine RG.callF (vs := [_]) rfl rfl En73 rfl (copyV_r hpr.up (by omega) (fun w50 => ?_))
        refine RG.ot rfl (OT.bslice (F := violT) (els := [⟨(gd xs i).rule, ⟨w50, (gd xs i).marker.xs⟩⟩]) rfl El55 rfl (by decide) rfl (by decide) ⟨rfl, (Cl.c rfl), trivial⟩ fun v51 => ?_)
        refine RG.ot rfl (OT.append (v := p) (u := v51) (F := violT) rfl El55 rfl (by decide) rfl rfl Rs.o (OneL.one (OneC.val rfl (OneC.sl SlF.o OneC.nil))) rfl (by first | omega | (simp <;> omega)) fun v52 => ?_)
        refine RG.pv rfl (PV.asg (v := v52) rfl rfl) ?_
        refine RG.nil ?_
        refine WP.region ?_
        refine RG.pv rfl (PV.mvI (.inl rfl) rfl) ?_
        refine RG.pv rfl (PV.add rfl rfl rfl (by omega)) ?_
        refine RG.pv rfl (PV.mvI (.inr rfl) rfl) ?_
        refine RG.nil ?_
        exact ⟨rfl, i + 1, ks, (us ++ [⟨(gd xs i).rule, ⟨w50, (gd xs i).marker.xs⟩⟩]), q, v52, ⟨by omega, by rw [f1]; simpa using hks, by rw [f2, erVs_app, hus]; rfl⟩, ⟨rfl, rfl, rfl, trivial⟩, ⟨rfl, rfl, rfl, trivial⟩, ((Cv.p (C := osl 71 rectT w50 (gd xs i).marker.xs :: bagS 71 rectT (mks us) :: osl 63 violT q ks :: bagS 71 rectT (mks ks) :: osl 63 violT v52 (us ++ [⟨(gd xs i).rule, ⟨w50, (gd xs i).marker.xs⟩⟩]) :: blk b3 54 (deckT.enc d) :: L)).trans ((Cv.grow (ys' := mks (us ++ [⟨(gd xs i).rule, ⟨w50, (gd xs i).marker.xs⟩⟩])) (by rw [mks_app]; rfl)).trans Cv.p)), by omega⟩
      · have h7 : isWv d.rules.xs ws (erV (gd xs i)) = false := h6
        rw [h7] at f1 f2
        refine WP.region ?_
        refine RG.pv rfl (PV.move (v := q) rfl rfl) ?_
        refine RG.pv rfl (PV.move (v := u) rfl rfl) ?_
        refine RG.pv rfl (PV.mvI (.inl rfl) rfl) ?_
        refine RG.pv rfl (PV.idxS (v := u) rfl Is55 rfl (SlF.r h2) rfl rfl (by omega)) ?_
        refine RG.pv rfl (PV.loadE rfl Ag63 rfl rfl (El.r h2 (getG (by omega)))) ?_
        refine RG.callF (vs := [_]) rfl rfl En73 rfl (copyV_r hpr.up (by omega) (fun w58 => ?_))
        refine RG.ot rfl (OT.bslice (F := violT) (els := [⟨(gd xs i).rule, ⟨w58, (gd xs i).marker.xs⟩⟩]) rfl El55 rfl (by decide) rfl (by decide) ⟨rfl, (Cl.c rfl), trivial⟩ fun v59 => ?_)
        refine RG.ot rfl (OT.append (v := q) (u := v59) (F := violT) rfl El55 rfl (by decide) rfl rfl Rs.o (OneL.one (OneC.val rfl (OneC.sl SlF.o OneC.nil))) rfl (by first | omega | (simp <;> omega)) fun v60 => ?_)
        refine RG.pv rfl (PV.asg (v := v60) rfl rfl) ?_
        refine RG.nil ?_
        refine WP.region ?_
        refine RG.pv rfl (PV.mvI (.inl rfl) rfl) ?_
        refine RG.pv rfl (PV.add rfl rfl rfl (by omega)) ?_
        refine RG.pv rfl (PV.mvI (.inr rfl) rfl) ?_
        refine RG.nil ?_
        exact ⟨rfl, i + 1, (ks ++ [⟨(gd xs i).rule, ⟨w58, (gd xs i).marker.xs⟩⟩]), us, v60, p, ⟨by omega, by rw [f1, erVs_app, hks]; rfl, by rw [f2]; simpa using hus⟩, ⟨rfl, rfl, rfl, trivial⟩, ⟨rfl, rfl, rfl, trivial⟩, ((Cv.p (C := osl 71 rectT w58 (gd xs i).marker.xs :: bagS 71 rectT (mks ks) :: osl 63 violT p us :: bagS 71 rectT (mks us) :: osl 63 violT v60 (ks ++ [⟨(gd xs i).rule, ⟨w58, (gd xs i).marker.xs⟩⟩]) :: blk b3 54 (deckT.enc d) :: L)).trans ((Cv.grow (ys' := mks (ks ++ [⟨(gd xs i).rule, ⟨w58, (gd xs i).marker.xs⟩⟩])) (by rw [mks_app]; rfl)).trans Cv.p)), by omega⟩
    · have h5 := of_decide_eq_false h5
      rw [List.take_of_length_le (by omega)] at hks hus
      refine WP.exit ?_
      refine WP.seq ?_
      refine WP.region ?_
      refine RG.pv rfl (PV.move (v := q) rfl rfl) ?_
      refine RG.pv rfl (PV.move (v := p) rfl rfl) ?_
      refine RG.pv rfl (PV.asg (v := q) rfl rfl) ?_
      refine RG.pv rfl (PV.asg (v := p) rfl rfl) ?_
      refine RG.pv rfl (PV.mvI (.inr rfl) rfl) ?_
      refine RG.nil ?_
      refine WP.ret ?_
      exact ⟨_, _, ResV.three rfl rfl rfl rfl, Cv.p, k q p ks us hks hus⟩
end Go.Proofs.YtpjajhjcbcfplaaGreat
namespace Go.Proofs.YtpjajhjcbcfplaaGreat
set_option linter.unusedVariables false
set_option linter.unusedSimpArgs false
open Go
set_option maxRecDepth 20000
set_option maxHeartbeats 2000000
set_option linter.unusedSimpArgs false
variable {G : Gh} {L : List Ch} {R : Value → Gh → List Ch → Prop}
theorem gd_apq {α : Type} [Inhabited α] (xs ys : List α) (m : Nat) : gd (xs ++ ys) (xs.length + m) = gd ys m := by
  unfold gd; rw [List.getElem?_append_right (by omega), Nat.add_sub_cancel_left]
/-- the violations of the first i rules -/
noncomputable def chkTo (l : List (List Rect)) (rs : List Rule) (i : Nat) : List (Int × List Rect) := (List.range i).flatMap fun j => (partsL (bits (rmE l (gd rs j)))).map fun p => ((j : Int), p)
theorem chkTo_succ (l : List (List Rect)) (rs : List Rule) (i : Nat) : chkTo l rs (i + 1) = chkTo l rs i ++ (partsL (bits (rmE l (gd rs i)))).map fun p => ((i : Int), p) := by
  rw [chkTo, chkTo, List.range_succ, List.flatMap_append]; simp
theorem check_s {v : Value} {ys : List (Sl Rect)} {d : Deck} (h1 : Rs G L slT v ys) (hd : RsE G L rectT ys) (h2 : Rs G L ruleT d.rules.v d.rules.xs) (hl : d.rules.xs.length ≤ 1000) (k : ∀ v' zs, erVs zs = chkTo (er ys) d.rules.xs d.rules.xs.length → R (.tuple #[v', .bool (decide ((zs.length : Int) ≤ 256))]) G (osl 63 violT v' zs :: bagS 71 rectT (mks zs) :: L)) : CallT Tryz.prog 122 #[v, vT deckT d] G L R := by
  refine CallT.enter (args := _) Tryz.func122 rfl rfl (by kernel_rfl) rfl ?_
  refine WP.seq ?_
  refine WP.region ?_
  refine RG.ot rfl (OT.box (cs := deckT.enc d) rfl rfl rfl fun b3 => ?_)
  refine RG.pv rfl (PV.asg rfl rfl) ?_
  refine RG.pv rfl (PV.mvB (.inr rfl) rfl) ?_
  refine RG.nil ?_
  refine WP.seq ?_
  refine WP.region ?_
  refine RG.ot rfl (OT.bslice (F := violT) (els := []) rfl El55 rfl (by decide) rfl (by decide) trivial fun v10 => ?_)
  refine RG.pv rfl (PV.asg (v := v10) rfl rfl) ?_
  refine RG.nil ?_
  refine WP.seq ?_
  refine WP.seq ?_
  refine WP.region ?_
  refine RG.pv rfl (PV.mvI (.inr rfl) rfl) ?_
  refine RG.nil ?_
  refine WP.block ?_
  refine WP.cv ((Cv.p (C := osl 63 violT v10 ([] : List Viol) :: blk b3 54 (deckT.enc d) :: L)).trans (Cv.cons (Cv.bag0 (e := 71) (F := rectT) (xs := mks []) rfl))) ?_
  refine WP.loop3 [0, 3] (fun (i : Nat) (out : List Viol) (q : Value) => i ≤ d.rules.xs.length ∧ out.length ≤ i * 6400 ∧ erVs out = chkTo (er ys) d.rules.xs i) (fun (i : Nat) (out : List Viol) (q : Value) => [(7, vi i), (6, q)]) (fun (i : Nat) (out : List Viol) (q : Value) => osl 63 violT q out :: bagS 71 rectT (mks out) :: blk b3 54 (deckT.enc d) :: L) (fun (i : Nat) (out : List Viol) (q : Value) => d.rules.xs.length - i) 0 [] v10 ⟨by omega, by simp, rfl⟩ ⟨rfl, rfl, trivial⟩ Cv.p ?_
  rintro i out q τ ⟨hi, hol, hev⟩
  refine WP.seq ?_
  refine WP.seq ?_
  refine WP.region ?_
  refine RG.pv rfl (PV.mvI (.inl rfl) rfl) ?_
  refine RG.pv rfl (PV.field rfl Fo54_0 rfl) ?_
  refine RG.pv rfl (PV.load1 rfl Sc52 rfl (Rd.blk rfl)) ?_
  refine RG.pv rfl (PV.len rfl Tryz.underlying52 rfl (SlF.r h2)) ?_
  refine RG.pv rfl (PV.lss rfl rfl rfl) ?_
  refine RG.nil ?_
  refine WP.cond rfl (fun h3 => ?_) (fun h3 => ?_)
  · have h3 := of_decide_eq_true h3
    refine WP.skip ?_
    refine WP.seq ?_
    refine WP.block ?_
    refine WP.seq ?_
    refine WP.region ?_
    refine RG.pv rfl (PV.move (v := v) rfl rfl) ?_
    refine RG.pv rfl (PV.field rfl Fo54_0 rfl) ?_
    refine RG.pv rfl (PV.load1 rfl Sc52 rfl (Rd.blk rfl)) ?_
    refine RG.pv rfl (PV.mvI (.inl rfl) rfl) ?_
    refine RG.pv rfl (PV.idxS rfl Is52 rfl (SlF.r h2) rfl rfl (by omega)) ?_
    refine RG.pv rfl (PV.loadE rfl Ag34 rfl rfl (El.r h2 (getG (by omega)))) ?_
    refine RG.callF (vs := [v, _]) rfl rfl En28 rfl (rule_s (Rs.up h1) hd.up (fun v24 => ?_))
    refine RG.callF (vs := [v24]) rfl rfl En172 rfl (comps7_s Rs.o (isReg_valid (rmE_reg _ _)) (fun v25 psv25 hpv25 => ?_))
    refine RG.pv rfl (PV.asg (v := v25) rfl rfl) ?_
    refine RG.nil ?_
    refine WP.seq ?_
    refine WP.region ?_
    refine RG.pv rfl (PV.mvI (.inr rfl) rfl) ?_
    refine RG.nil ?_
    refine WP.block ?_
    have hpl : psv25.length ≤ 6400 := by have := congrArg List.length hpv25; rw [er_len] at this; rw [this, partsL, List.length_map]; exact comps_len _
    have hps : ∀ m, m < psv25.length → Rs G [bagS 71 rectT (mks out ++ psv25)] rectT (gd psv25 m).v (gd psv25 m).xs := fun m hm => by
      have := Rs.inBag (G := G) (L := [bagS 71 rectT (mks out ++ psv25)]) (L' := []) (e := 71) (F := rectT) (xs := mks out ++ psv25) ((mks out).length + m) (by simp; omega)
      rwa [gd_apq] at this
    refine WP.cv ((Cv.p (C := bagS 71 rectT (mks out) :: bagS 71 rectT psv25 :: osl 63 violT q out :: osl 28 slT v25 psv25 :: blk b3 54 (deckT.enc d) :: L)).trans Cv.bagJoin) ?_
    refine WP.loop3 [0, 3, 7, 8] (fun (m : Nat) (out2 : List Viol) (q2 : Value) => m ≤ psv25.length ∧ out2.length = out.length + m ∧ mks out2 ++ psv25.drop m = mks out ++ psv25 ∧ erVs out2 = erVs out ++ ((er psv25).take m).map (fun p => ((i : Int), p))) (fun (m : Nat) (out2 : List Viol) (q2 : Value) => [(9, vi m), (6, q2)]) (fun (m : Nat) (out2 : List Viol) (q2 : Value) => bagS 71 rectT (mks out ++ psv25) :: osl 63 violT q2 out2 :: osl 28 slT v25 psv25 :: blk b3 54 (deckT.enc d) :: L) (fun (m : Nat) (out2 : List Viol) (q2 : Value) => psv25.length - m) 0 out q ⟨by omega, by omega, rfl, by simp⟩ ⟨rfl, rfl, trivial⟩ Cv.p ?_
    rintro m out2 q2 τ1 ⟨hm, hol2, heq, hev2⟩
    refine WP.seq ?_
    refine WP.seq ?_
    refine WP.region ?_
    refine RG.pv rfl (PV.mvI (.inl rfl) rfl) ?_
    refine RG.pv rfl (PV.move (v := v25) rfl rfl) ?_
    refine RG.pv rfl (PV.len (v := v25) rfl Tryz.underlying32 rfl SlF.o) ?_
    refine RG.pv rfl (PV.lss rfl rfl rfl) ?_
    refine RG.nil ?_
    refine WP.cond rfl (fun h4 => ?_) (fun h4 => ?_)
    · have h4 := of_decide_eq_true h4
      have h40 : m < psv25.length := by omega
      have hpm := hps m h40
      have heq' : mks (out2 ++ [⟨(i : Int), gd psv25 m⟩]) ++ psv25.drop (m + 1) = mks out ++ psv25 := by
        rw [mks_app, List.append_assoc, ← heq, List.drop_eq_getElem_cons h40, gd_eq h40]; rfl
      have hev3 : erVs (out2 ++ [⟨(i : Int), gd psv25 m⟩]) = erVs out ++ ((er psv25).take (m + 1)).map (fun p => ((i : Int), p)) := by
        rw [erVs_app, hev2, List.take_add_one, getG (by rw [er_len]; exact h40), er_gd, List.append_assoc, List.map_append]; rfl
      refine WP.skip ?_
      refine WP.seq ?_
      refine WP.block ?_
      refine WP.region ?_
      refine RG.pv rfl (PV.move (v := q2) rfl rfl) ?_
      refine RG.pv rfl (PV.mvI (.inl rfl) rfl) ?_
      refine RG.pv rfl (PV.move (v := v25) rfl rfl) ?_
      refine RG.pv rfl (PV.mvI (.inl rfl) rfl) ?_
      refine RG.pv rfl (PV.idxS (v := v25) rfl Is32 rfl SlF.o rfl rfl (by omega)) ?_
      refine RG.pv rfl (PV.loadE1 rfl Sc28 rfl rfl (El.o (getG (by omega))) rfl) ?_
      refine RG.pv rfl (PV.build (vs := [(0, [vi _]), (1, [_])]) (out := [_, _]) rfl Zr63 Pl63 ⟨rfl, (Cl.c rfl), ⟨rfl, (Cl.s (SlF.r hpm)), trivial⟩⟩ rfl) ?_
      refine RG.ot rfl (OT.bslice (F := violT) (els := [⟨(i : Int), gd psv25 m⟩]) rfl El55 rfl (by decide) rfl (by decide) ⟨rfl, (Cl.c rfl), trivial⟩ fun v39 => ?_)
      refine RG.ot rfl (OT.append (v := q2) (u := v39) (F := violT) rfl El55 rfl (by decide) rfl rfl Rs.o (OneL.one (OneC.val rfl (OneC.sl (SlF.r hpm) OneC.nil))) rfl (by first | omega | (simp <;> omega)) fun v40 => ?_)
      refine RG.pv rfl (PV.asg (v := v40) rfl rfl) ?_
      refine RG.nil ?_
      refine WP.region ?_
      refine RG.pv rfl (PV.mvI (.inl rfl) rfl) ?_
      refine RG.pv rfl (PV.add rfl rfl rfl (by omega)) ?_
      refine RG.pv rfl (PV.mvI (.inr rfl) rfl) ?_
      refine RG.nil ?_
      exact ⟨rfl, m + 1, (out2 ++ [⟨(i : Int), gd psv25 m⟩]), v40, ⟨by omega, by simp; omega, heq', hev3⟩, ⟨rfl, rfl, trivial⟩, ⟨rfl, rfl, rfl, rfl, trivial⟩, Cv.p, by omega⟩
    · have h4 := of_decide_eq_false h4
      obtain rfl : m = psv25.length := by omega
      rw [List.drop_length, List.append_nil] at heq
      rw [List.take_of_length_le (by rw [er_len]; omega), hpv25, hev, ← chkTo_succ] at hev2
      refine WP.exit ?_
      refine WP.region ?_
      refine RG.pv rfl (PV.mvI (.inl rfl) rfl) ?_
      refine RG.pv rfl (PV.add rfl rfl rfl (by omega)) ?_
      refine RG.pv rfl (PV.mvI (.inr rfl) rfl) ?_
      refine RG.nil ?_
      exact ⟨rfl, i + 1, out2, q2, ⟨by omega, by omega, hev2⟩, ⟨rfl, rfl, trivial⟩, ⟨rfl, rfl, trivial⟩, (by simp only [heq]; exact Cv.p), by omega⟩
  · have h3 := of_decide_eq_false h3
    obtain rfl : i = d.rules.xs.length := by omega
    refine WP.exit ?_
    refine WP.seq ?_
    refine WP.region ?_
    refine RG.pv rfl (PV.move (v := q) rfl rfl) ?_
    refine RG.pv rfl (PV.move (v := q) rfl rfl) ?_
    refine RG.pv rfl (PV.len (v := q) rfl Tryz.underlying55 rfl SlF.o) ?_
    refine RG.pv rfl (PV.leq rfl rfl rfl) ?_
    refine RG.pv rfl (PV.asg (v := q) rfl rfl) ?_
    refine RG.pv rfl (PV.mvB (.inr rfl) rfl) ?_
    refine RG.nil ?_
    refine WP.ret ?_
    exact ⟨_, _, ResV.two rfl rfl rfl, Cv.p, k q out hev⟩
end Go.Proofs.YtpjajhjcbcfplaaGreat
namespace Go.Proofs.YtpjajhjcbcfplaaGreat
set_option linter.unusedVariables false
set_option linter.unusedSimpArgs false
open Go
set_option maxRecDepth 20000
set_option maxHeartbeats 2000000
set_option linter.unusedSimpArgs false
variable {G : Gh} {L : List Ch} {R : Value → Gh → List Ch → Prop}
/-- violations whose markers are those of a bag, or nil -/
def MkIn (zs : List Viol) (ys : List (Sl Rect)) : Prop := ∀ z ∈ zs, z.marker ∈ ys ∨ z.marker = ⟨.slice none 0 0, []⟩
theorem MkIn.self (zs : List Viol) : MkIn zs (mks zs) := fun z hz => .inl (List.mem_map_of_mem hz)
theorem MkIn.set {zs : List Viol} {ys : List (Sl Rect)} (h : MkIn zs ys) (i : Nat) {z : Viol} (hz : z.marker ∈ ys ∨ z.marker = ⟨.slice none 0 0, []⟩) : MkIn (zs.set i z) ys := fun a ha => by
  rcases List.mem_or_eq_of_mem_set ha with h1 | h1
  · exact h a h1
  · rw [h1]; exact hz
theorem MkIn.app {zs : List Viol} {ys : List (Sl Rect)} (h : MkIn zs ys) {z : Viol} (hz : z.marker ∈ ys ∨ z.marker = ⟨.slice none 0 0, []⟩) : MkIn (zs ++ [z]) ys := fun a ha => by
  rcases List.mem_append.1 ha with h1 | h1
  · exact h a h1
  · simp only [List.mem_singleton] at h1; rw [h1]; exact hz
theorem MkIn.gd {zs : List Viol} {ys : List (Sl Rect)} (h : MkIn zs ys) {i : Nat} (hi : i < zs.length) : (gd zs i).marker ∈ ys ∨ (gd zs i).marker = ⟨.slice none 0 0, []⟩ := h _ (gd_mem hi)
theorem MkIn.one {zs : List Viol} {ys : List (Sl Rect)} {e : TypeId} {L L' : List Ch} [hX : ExBg ys L e rectT L'] (h : MkIn zs ys) : OneL G L violT zs := fun w hs a ha => by
  rcases h a ha with h1 | h1
  · obtain ⟨i, hi, e1⟩ := List.getElem_of_mem h1
    have := (Rs.inBag (G := G) (L := L) (L' := L') (e := e) (F := rectT) (xs := ys) i hi) w hs
    rw [gd_eq hi, e1] at this
    exact OneC.val (v := vi a.rule) rfl (OneC.sl (v := a.marker.v) (m := a.marker.xs.length) (fun _ _ => this.1) OneC.nil) w hs
  · show allOne [vi a.rule, a.marker.v] = true
    rw [h1]; rfl
theorem MkIn.onec {z : Viol} {ys : List (Sl Rect)} {e : TypeId} {L L' : List Ch} [hX : ExBg ys L e rectT L'] (h : z.marker ∈ ys ∨ z.marker = ⟨.slice none 0 0, []⟩) : OneC G L (violT.enc z) := fun w hs =>
  MkIn.one (e := e) (zs := [z]) (hX := hX) (fun a ha => by simp only [List.mem_singleton] at ha; rw [ha]; exact h) w hs z (.head _)
end Go.Proofs.YtpjajhjcbcfplaaGreat
namespace Go.Proofs.YtpjajhjcbcfplaaGreat
set_option linter.unusedVariables false
set_option linter.unusedSimpArgs false
open Go
set_option maxRecDepth 20000
set_option maxHeartbeats 2000000
set_option linter.unusedSimpArgs false
variable {G : Gh} {L : List Ch} {R : Value → Gh → List Ch → Prop}
def RsOk (ws : List Waiver) : Prop := ∀ w ∈ ws, w.reason.size ≤ 9
theorem RsOk.set {ws : List Waiver} (h : RsOk ws) (i : Nat) {w : Waiver} (hw : w.reason.size ≤ 9) : RsOk (ws.set i w) := fun a ha => by
  rcases List.mem_or_eq_of_mem_set ha with h1 | h1
  · exact h a h1
  · rw [h1]; exact hw
theorem RsOk.app {ws : List Waiver} (h : RsOk ws) {w : Waiver} (hw : w.reason.size ≤ 9) : RsOk (ws ++ [w]) := fun a ha => by
  rcases List.mem_append.1 ha with h1 | h1
  · exact h a h1
  · simp only [List.mem_singleton] at h1; rw [h1]; exact hw
theorem spoilWaivers_w {b : Nat} {n : Int} {cv v : Value} {bs : List UInt8} {ws : List Waiver} (hcode : SL G byteT cv bs) (hn : 1 ≤ n ∧ n ≤ 100) (hl : ws.length ≤ 10000) (hm : RsOk ws) (k : ∀ v' ws', RsOk ws' → R v' G (osl 67 waiverT v' ws' :: src b cv :: L)) : CallT Tryz.prog 69 #[.pointer (some ⟨b, 0, none⟩), v, vi n] G (osl 67 waiverT v ws :: src b cv :: L) R := by
  refine CallT.enter (args := _) Tryz.func69 rfl rfl (by kernel_rfl) rfl ?_
  refine WP.seq ?_
  refine WP.region ?_
  refine RG.pv rfl (PV.asg rfl rfl) ?_
  refine RG.nil ?_
  refine WP.seq ?_
  refine WP.seq ?_
  refine WP.region ?_
  refine RG.pv rfl (PV.move (v := v) rfl rfl) ?_
  refine RG.pv rfl (PV.len (v := v) rfl Tryz.underlying56 rfl SlF.o) ?_
  refine RG.pv rfl (PV.eql rfl rfl rfl) ?_
  refine RG.pv rfl (PV.mvB (.inl rfl) rfl) ?_
  refine RG.spl (t := 12) rfl (fun g1 => ?_) (fun g1 => ?_)
  · refine RG.skip rfl rfl rfl (gneF g1) ?_
    refine RG.skip rfl rfl rfl (gneF g1) ?_
    refine RG.skip rfl rfl rfl (gneF g1) ?_
    refine RG.skip rfl rfl rfl (gneF g1) ?_
    refine RG.pv rfl (PV.pickT rfl rfl g1 rfl) ?_
    refine RG.nil ?_
    refine WP.cond rfl (fun h2 => ?_) (fun h2 => ?_)
    · refine WP.seq ?_
      refine WP.region ?_
      refine RG.pv rfl (PV.move (v := v) rfl rfl) ?_
      refine RG.pv rfl (PV.asg (v := v) rfl rfl) ?_
      refine RG.nil ?_
      refine WP.ret ?_
      exact ⟨_, _, ResV.one rfl rfl, Cv.p, k v ws hm⟩
    · skip
      cases h2
  · have g2 : ws.length ≠ 0 := by simp at g1; simpa using g1
    refine RG.take rfl rfl rfl g1 ?_
    refine RG.pv rfl (PV.move rfl rfl) ?_
    refine RG.take rfl rfl rfl g1 ?_
    refine RG.pv rfl (PV.mvI (.inl rfl) rfl) ?_
    refine RG.take rfl rfl rfl g1 ?_
    refine RG.callF (vs := [_, _]) rfl rfl En66 rfl (CallT.exC (src b cv) (next_s hcode (by omega) (fun w15 hw15 => ?_)))
    refine RG.take rfl rfl rfl g1 ?_
    refine RG.pv rfl (PV.neq rfl rfl rfl) ?_
    refine RG.pv rfl (PV.pickE rfl rfl g1 rfl) ?_
    refine RG.nil ?_
    refine WP.cond rfl (fun h2 => ?_) (fun h2 => ?_)
    · refine WP.seq ?_
      refine WP.region ?_
      refine RG.pv rfl (PV.move (v := v) rfl rfl) ?_
      refine RG.pv rfl (PV.asg (v := v) rfl rfl) ?_
      refine RG.nil ?_
      refine WP.ret ?_
      exact ⟨_, _, ResV.one rfl rfl, Cv.p, k v ws hm⟩
    · have hlm : ws.length - 1 < ws.length := by omega
      have hml := hm _ (gd_mem hlm)
      refine WP.skip ?_
      refine WP.seq ?_
      refine WP.region ?_
      refine RG.ot rfl (OT.bslice (F := waiverT) (els := []) rfl El56 rfl (by decide) rfl (by decide) trivial fun v19 => ?_)
      refine RG.pv rfl (PV.move (v := v) rfl rfl) ?_
      refine RG.ot rfl (OT.append (v := v19) (u := v) (F := waiverT) rfl El56 rfl (by decide) rfl rfl Rs.o (OneL.c (fun _ => rfl)) rfl (by first | omega | (simp <;> omega)) fun v21 => ?_)
      refine RG.pv rfl (PV.asg (v := v21) rfl rfl) ?_
      refine RG.nil ?_
      refine WP.seq ?_
      refine WP.seq ?_
      refine WP.region ?_
      refine RG.pv rfl (PV.move rfl rfl) ?_
      refine RG.callF (vs := [_, _]) rfl rfl En66 rfl (CallT.exC (src b cv) (next_s hcode (by omega) (fun w23 hw23 => ?_)))
      refine RG.nil ?_
      refine WP.block ?_
      refine WP.seq ?_
      refine WP.region ?_
      refine RG.pv rfl (PV.eql rfl rfl rfl) ?_
      refine RG.pv rfl (PV.mvB (.inr rfl) rfl) ?_
      refine RG.nil ?_
      refine WP.cv ((Cv.p (C := osl 67 waiverT v21 ([] ++ ws) :: src b cv :: L)).trans (Cv.eqS (List.nil_append _))) ?_
      refine WP.cond rfl (fun h3 => ?_) (fun h3 => ?_)
      · refine WP.region ?_
        refine RG.pv rfl (PV.move (v := v21) rfl rfl) ?_
        refine RG.pv rfl (PV.idxS (j := 0) (v := v21) rfl Is56 rfl SlF.o rfl (by first | omega | (simp only [List.length_set]; omega)) (by first | omega | (simp only [List.length_set]; omega))) ?_
        refine RG.pv rfl (PV.field rfl Fo67_1 rfl) ?_
        refine RG.ot rfl (OT.storeF (F := waiverT) (val := Value.string) (cv := fun u => [.string u]) (st := Waiver.s1) rfl Sz9 rfl rfl rfl (Cl.c rfl) rfl (OneC.c rfl) (by exact set_self (by omega)) (by first | omega | (simp; omega)) rfl (fun _ _ => rfl) ?_)
        refine RG.nil ?_
        refine WP.seq ?_
        refine WP.region ?_
        refine RG.pv rfl (PV.move (v := v21) rfl rfl) ?_
        refine RG.pv rfl (PV.asg (v := v21) rfl rfl) ?_
        refine RG.nil ?_
        refine WP.ret ?_
        exact ⟨_, _, ResV.one rfl rfl, Cv.p, k v21 (ws.set 0 (Waiver.s1 (ByteArray.mk #[]) (gd ws 0))) (hm.set 0 (show (ByteArray.mk #[]).size ≤ 9 by decide))⟩
      · refine WP.seq ?_
        refine WP.region ?_
        refine RG.pv rfl (PV.eql rfl rfl rfl) ?_
        refine RG.pv rfl (PV.mvB (.inr rfl) rfl) ?_
        refine RG.nil ?_
        refine WP.cond rfl (fun h4 => ?_) (fun h4 => ?_)
        · refine WP.seq ?_
          refine WP.region ?_
          refine RG.pv rfl (PV.move (v := v21) rfl rfl) ?_
          refine RG.pv rfl (PV.move (v := v21) rfl rfl) ?_
          refine RG.pv rfl (PV.len (v := v21) rfl Tryz.underlying56 rfl SlF.o) ?_
          refine RG.pv rfl (PV.sub rfl rfl rfl (by omega)) ?_
          refine RG.pv rfl (PV.idxS (j := ws.length - 1) (v := v21) rfl Is56 rfl SlF.o rfl (by first | omega | (simp only [List.length_set]; omega)) (by first | omega | (simp only [List.length_set]; omega))) ?_
          refine RG.pv rfl (PV.loadE rfl Ag67 rfl rfl (El.o (getG (by omega)))) ?_
          refine RG.ot rfl (OT.alloc rfl Zr67 fun b8 => ?_)
          refine RG.ot rfl (OT.storeW (vs := [vi _, .string _]) rfl Sz67 rfl rfl (Cl.c rfl) rfl rfl (OneC.c rfl) ?_)
          refine RG.nil ?_
          refine WP.region ?_
          refine RG.pv rfl (PV.move (v := v21) rfl rfl) ?_
          refine RG.pv rfl (PV.loadW rfl Ag67 rfl rfl) ?_
          refine RG.ot rfl (OT.bslice (F := waiverT) (els := [_]) rfl El56 rfl (by decide) rfl (by decide) ⟨rfl, (Cl.c rfl), trivial⟩ fun v42 => ?_)
          refine RG.ot rfl (OT.append (v := v21) (u := v42) (F := waiverT) rfl El56 rfl (by decide) rfl rfl Rs.o (OneL.c (fun _ => rfl)) rfl (by first | omega | (simp <;> omega)) fun v43 => ?_)
          refine RG.pv rfl (PV.asg (v := v43) rfl rfl) ?_
          refine RG.nil ?_
          refine WP.seq ?_
          refine WP.region ?_
          refine RG.pv rfl (PV.move (v := v43) rfl rfl) ?_
          refine RG.pv rfl (PV.asg (v := v43) rfl rfl) ?_
          refine RG.nil ?_
          refine WP.ret ?_
          exact ⟨_, _, ResV.one rfl rfl, Cv.p, k v43 (ws ++ [gd ws (ws.length - 1)]) (hm.app hml)⟩
        · refine WP.region ?_
          refine RG.pv rfl (PV.move (v := v21) rfl rfl) ?_
          refine RG.pv rfl (PV.idxS (j := 0) (v := v21) rfl Is56 rfl SlF.o rfl (by first | omega | (simp only [List.length_set]; omega)) (by first | omega | (simp only [List.length_set]; omega))) ?_
          refine RG.pv rfl (PV.field rfl Fo67_0 rfl) ?_
          refine RG.ot rfl (OT.storeF (F := waiverT) (val := vi) (cv := fun u => [vi u]) (st := Waiver.s0) rfl Sz2 rfl rfl rfl (Cl.c rfl) rfl (OneC.c rfl) (by exact set_self (by omega)) (by first | omega | (simp; omega)) rfl (fun _ _ => rfl) ?_)
          refine RG.nil ?_
          refine WP.seq ?_
          refine WP.region ?_
          refine RG.pv rfl (PV.move (v := v21) rfl rfl) ?_
          refine RG.pv rfl (PV.asg (v := v21) rfl rfl) ?_
          refine RG.nil ?_
          refine WP.ret ?_
          exact ⟨_, _, ResV.one rfl rfl, Cv.p, k v21 (ws.set 0 (Waiver.s0 (-1) (gd ws 0))) (hm.set 0 (show (gd ws 0).reason.size ≤ 9 from hm _ (gd_mem (by omega))))⟩
theorem insMem {ws : List Waiver} {w : Waiver} {i n : Nat} : ∀ a ∈ ((([] ++ (ws.take i).drop 0) ++ [w]) ++ (ws.take n).drop i), a ∈ ws ∨ a = w := fun a ha => by
  rw [List.mem_append, List.mem_append, List.nil_append, List.drop_zero, List.mem_singleton] at ha
  rcases ha with (h | h) | h
  · exact .inl (List.mem_of_mem_take h)
  · exact .inr h
  · exact .inl (List.mem_of_mem_take (List.mem_of_mem_drop h))
theorem insert_w {v : Value} {ws : List Waiver} {w : Waiver} (h1 : Rs G L waiverT v ws) (hl : ws.length ≤ 10000) (k : ∀ v' ws', ws'.length = ws.length + 1 → (∀ a ∈ ws', a ∈ ws ∨ a = w) → R v' G (osl 67 waiverT v' ws' :: L)) : CallT Tryz.prog 124 #[v, vT waiverT w] G L R := by
  refine CallT.enter (args := _) Tryz.func124 rfl rfl (by kernel_rfl) rfl ?_
  refine WP.seq ?_
  refine WP.region ?_
  refine RG.ot rfl (OT.box (cs := waiverT.enc w) rfl rfl rfl fun b3 => ?_)
  refine RG.pv rfl (PV.asg rfl rfl) ?_
  refine RG.nil ?_
  refine WP.seq ?_
  refine WP.region ?_
  refine RG.pv rfl (PV.mvI (.inr rfl) rfl) ?_
  refine RG.nil ?_
  refine WP.seq ?_
  refine WP.block ?_
  refine WP.loop1 [0, 3] (fun (i : Nat) => i ≤ ws.length) (fun (i : Nat) => [(5, vi i)]) (fun (i : Nat) => blk b3 67 (waiverT.enc w) :: L) (fun (i : Nat) => ws.length - i) 0 (by omega) ⟨rfl, trivial⟩ Cv.p ?_
  rintro i τ hi
  refine WP.seq ?_
  refine WP.seq ?_
  refine WP.regionQ (by kernel_rfl) (by kernel_rfl) ?_
  refine RQ.pv rfl (PV.mvI (.inl rfl) rfl) ?_
  refine RQ.pv rfl (PV.move (v := v) rfl rfl) ?_
  refine RQ.pv rfl (PV.len (v := v) rfl Tryz.underlying56 rfl (SlF.r h1)) ?_
  refine RQ.pv rfl (PV.lss rfl rfl rfl) ?_
  refine RQ.pv rfl (PV.mvB (.inl rfl) rfl) ?_
  refine RQ.gs rfl rfl rfl (fun hp => (PV.move (v := v) rfl rfl)) ?_
  refine RQ.gs rfl rfl rfl (fun hp => (PV.mvI (.inl rfl) rfl)) ?_
  refine RQ.gs rfl rfl rfl (fun hp => (PV.idxS (v := v) rfl Is56 (gs_t hp) (SlF.r h1) (gs_t hp) rfl (by first | omega | (simp at hp; omega)))) ?_
  refine RQ.gs rfl rfl rfl (fun hp => (PV.field rfl Fo67_0 (gs_t hp))) ?_
  refine RQ.gs rfl rfl rfl (fun hp => (PV.loadF rfl Sc2 (gs_t hp) rfl (El.r h1 (getG (by first | omega | (simp at hp; omega)))) rfl)) ?_
  refine RQ.gs rfl rfl rfl (fun hp => (PV.field rfl Fo67_0 rfl)) ?_
  refine RQ.gs rfl rfl rfl (fun hp => (PV.load1 rfl Sc2 (gs_t hp) (Rd.blk rfl))) ?_
  refine RQ.gs rfl rfl rfl (fun hp => (PV.lss rfl (gs_t hp) (gs_t hp))) ?_
  refine RQ.pv rfl (PV.pickA rfl rfl (fun hq => gs_t (geqT hq)) rfl) ?_
  refine RQ.nil ?_
  refine WP.cond rfl (fun h2 => ?_) (fun h2 => ?_)
  · have h3 : i < ws.length := by simp at h2; omega
    refine WP.skip ?_
    refine WP.block ?_
    refine WP.region ?_
    refine RG.pv rfl (PV.mvI (.inl rfl) rfl) ?_
    refine RG.pv rfl (PV.add rfl rfl rfl (by omega)) ?_
    refine RG.pv rfl (PV.mvI (.inr rfl) rfl) ?_
    refine RG.nil ?_
    exact ⟨rfl, i + 1, (by omega), ⟨rfl, trivial⟩, ⟨rfl, rfl, trivial⟩, Cv.p, by omega⟩
  · refine WP.exit ?_
    refine WP.seq ?_
    refine WP.region ?_
    refine RG.ot rfl (OT.bslice (F := waiverT) (els := []) rfl El56 rfl (by decide) rfl (by decide) trivial fun v23 => ?_)
    refine RG.pv rfl (PV.move (v := v) rfl rfl) ?_
    refine RG.pv rfl (PV.mvI (.inl rfl) rfl) ?_
    refine RG.pv rfl (PV.slc (v := v) rfl Is56 rfl (SlF.r h1) optAt.n (optAt.s rfl rfl) (by omega) (by omega)) ?_
    refine RG.ot rfl (OT.append (v := v23) (F := waiverT) rfl El56 rfl (by decide) rfl rfl (Rs.up (Rs.slv (F := waiverT) h1 (by omega) (by omega))) (OneL.c (fun _ => rfl)) rfl (by first | omega | (simp <;> omega)) fun v27 => ?_)
    refine RG.pv rfl (PV.asg (v := v27) rfl rfl) ?_
    refine RG.nil ?_
    refine WP.seq ?_
    refine WP.region ?_
    refine RG.pv rfl (PV.move (v := v27) rfl rfl) ?_
    refine RG.pv rfl (PV.loadW rfl Ag67 rfl rfl) ?_
    refine RG.ot rfl (OT.bslice (F := waiverT) (els := [_]) rfl El56 rfl (by decide) rfl (by decide) ⟨rfl, (Cl.c rfl), trivial⟩ fun v30 => ?_)
    refine RG.ot rfl (OT.append (v := v27) (u := v30) (F := waiverT) rfl El56 rfl (by decide) rfl rfl Rs.o (OneL.c (fun _ => rfl)) rfl (by first | omega | (simp <;> omega)) fun v31 => ?_)
    refine RG.pv rfl (PV.asg (v := v31) rfl rfl) ?_
    refine RG.nil ?_
    refine WP.seq ?_
    refine WP.region ?_
    refine RG.pv rfl (PV.move (v := v31) rfl rfl) ?_
    refine RG.pv rfl (PV.move (v := v) rfl rfl) ?_
    refine RG.pv rfl (PV.mvI (.inl rfl) rfl) ?_
    refine RG.pv rfl (PV.slc (v := v) rfl Is56 rfl (SlF.r h1) (optAt.s rfl rfl) optAt.n (by omega) (by omega)) ?_
    refine RG.ot rfl (OT.append (v := v31) (F := waiverT) rfl El56 rfl (by decide) rfl rfl (Rs.up (Rs.slv (F := waiverT) h1 (by omega) (by omega))) (OneL.c (fun _ => rfl)) rfl (by first | omega | (simp <;> omega)) fun v36 => ?_)
    refine RG.pv rfl (PV.asg (v := v36) rfl rfl) ?_
    refine RG.nil ?_
    refine WP.ret ?_
    exact ⟨_, _, ResV.one rfl rfl, Cv.p, k v36 ((([] ++ (ws.take i).drop 0) ++ [w]) ++ (ws.take ws.length).drop i) (by simp; omega) insMem⟩
theorem RsOk.ins {ws ws' : List Waiver} {w : Waiver} (h : RsOk ws) (hm : ∀ a ∈ ws', a ∈ ws ∨ a = w) (hw : w.reason.size ≤ 9) : RsOk ws' := fun a ha => by
  rcases hm a ha with h1 | h1
  · exact h a h1
  · rw [h1]; exact hw
abbrev rn3 : List ByteArray := [ByteArray.mk #[115, 101, 97, 108], ByteArray.mk #[116, 101, 115, 116, 45, 49], ByteArray.mk #[120]]
theorem rn3_ok {w : Int} (hw : 0 ≤ w ∧ (w < 3 ∨ w = 0)) : (gd rn3 w.toNat).size ≤ 9 := by
  have h5 : w.toNat < 3 := by omega
  have := gd_mem (xs := rn3) (i := w.toNat) h5
  have key : ∀ b ∈ rn3, b.size ≤ 9 := by decide
  exact key _ this
end Go.Proofs.YtpjajhjcbcfplaaGreat
