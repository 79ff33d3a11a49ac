/-
  Contracts of functions and plain facts that the last text of this folder uses, part 5.
-/
import Derived.Test.YtogocmlhnjiaaaaGreatTB4
set_option linter.unusedVariables false
set_option linter.unusedSimpArgs false
namespace Go.Proofs.YtogocmlhnjiaaaaGreat
open Go
set_option maxRecDepth 20000
set_option maxHeartbeats 2000000
variable {G : Gh} {L : List Ch} {R : Value -> Gh -> List Ch -> Prop}
theorem Cv.un {c : Ch} {L L' : List Ch} (h : Ex c L L') : Cv (c :: L') L := by
 induction h with
 | head L => exact Cv.refl _
 | tail x h ih => exact (Cv.swap (A := [_]) (B := [x]) (L := _)).trans (Cv.cons ih)
theorem CallT.readB {P : Program} {f : FuncId} {args : Array Value} {v : Value} {b : Nat} {e : TypeId} {cs : List Value} {L' : List Ch} [hX : ExB b L e cs L'] (h : CallT P f args G (blk b e cs :: L') (fun v' G' M => v' = v ∧ G' = G ∧ M = blk b e cs :: L')) (k : R v G L) : CallT P f args G L R :=
 CallT.of fun w hs => ((CallT.exB h).run hs).mono fun _ _ ⟨v', G', M, h1, h2, h3⟩ => by
  obtain ⟨rfl, rfl, rfl⟩ := h3
  exact ⟨_, _, L, h1, h2.cv (Cv.un hX.ex), k⟩
structure Gp (A B : List Bool) (n : Nat) (out : List Rect) : Prop where
  len : out.length <= 6400 * n
  run : ∀ r ∈ out, ∃ ver l k lo hi, isRun (notB (orZ A B)) ver l k lo hi ∧ gapE A B ver (lineR ver l lo hi) = true ∧ r = lineR ver l lo hi
  all : ∀ m, m < n -> ∀ l k lo hi, isRun (notB (orZ A B)) (gd [false, true] m) l k lo hi -> gapE A B (gd [false, true] m) (lineR (gd [false, true] m) l lo hi) = true -> lineR (gd [false, true] m) l lo hi ∈ out
theorem Gp.nil {A B : List Bool} : Gp A B 0 [] := ⟨by simp, fun r h => (by cases h), fun m h => (by omega)⟩
theorem Gp.next {A B : List Bool} {n : Nat} {out g : List Rect} (h : Gp A B n out) (hg : GapsOf (orZ A B) (gd [false, true] n) g) : Gp A B (n + 1) (out ++ g.filter (gapE A B (gd [false, true] n))) := by
 refine ⟨?_, fun r hr => ?_, fun m hm l k lo hi h1 h2 => ?_⟩
 ·have := h.len; have := hg.len; have := List.length_filter_le (gapE A B (gd [false, true] n)) g
  rw [List.length_append]; omega
 ·rcases List.mem_append.1 hr with h1 | h1
  ·exact h.run r h1
  ·obtain ⟨h2, h3⟩ := List.mem_filter.1 h1
   obtain ⟨l, k, lo, hi, g1, g2, rfl⟩ := hg.run r h2
   exact ⟨_, l, k, lo, hi, g1, h3, rfl⟩
 ·by_cases c : m = n
  ·subst c
   have h3 := gapE_inner h2
   exact List.mem_append_right _ (List.mem_filter.2 ⟨hg.all l k lo hi h1 h3.1 h3.2, h2⟩)
  ·exact List.mem_append_left _ (h.all m (by omega) l k lo hi h1 h2)
theorem gd_ft0 : gd [false, true] 0 = false := by simp [gd]
theorem gd_ft1 : gd [false, true] 1 = true := by simp [gd]
theorem Gp.done {A B : List Bool} {out : List Rect} (h : Gp A B 2 out) : GapsA A B out := ⟨by have := h.len; omega, h.run, fun ver l k lo hi h1 h2 => by
 cases ver with
 | false => have h3 := h.all 0 (by omega) l k lo hi; rw [gd_ft0] at h3; exact h3 h1 h2
 | true => have h3 := h.all 1 (by omega) l k lo hi; rw [gd_ft1] at h3; exact h3 h1 h2⟩
theorem gapsBetween_i {u v : Value} {xs ys : List Rect} (h1 : Rs G L rectT u xs) (h2 : Rs G L rectT v ys) (k : ∀ v' out, GapsA (bits xs) (bits ys) out -> R v' G (osl 101 rectT v' out :: L)) : CallT Tryz.prog 139 #[u, v] G L R := by
 refine CallT.bd h2 fun hb => ?_
 have hlx := bits_length xs
 have hly := bits_length ys
 have hOl : (orZ (bits xs) (bits ys)).length = 6400 := by rw [orZ_len, hlx]
 refine CallT.enter (args := _) Tryz.func139 rfl rfl (by kernel_rfl) rfl ?_
 refine WP.sr (RG.p (PV.asg rfl rfl) (RG.nil (WP.sr (RG.p (PV.move (v := u) rfl rfl) ?_))))
 refine RG.callF (vs := [u]) rfl rfl En99 rfl (cellsOf_s (Rs.up h1) (fun b5 => ?_))
 refine RG.p (PV.move (v := v) rfl rfl) ?_
 refine RG.callF (vs := [v]) rfl rfl En99 rfl (cellsOf_s (Rs.up h2) (fun b6 => ?_))
 refine RG.ot rfl (OT.bslice (F := rectT) (els := []) rfl El50 rfl (by decide) rfl (by decide) trivial fun v21 => ?_)
 refine RG.p (PV.asg rfl rfl) (RG.p (PV.asg rfl rfl) (RG.p (PV.asg (v := v21) rfl rfl) (RG.nil (WP.sr (RG.p (PV.move (v := u) rfl rfl) ?_)))))
 refine RG.callF (vs := [u]) rfl rfl En99 rfl (cellsOf_s (Rs.up h1) (fun b8 => ?_))
 refine RG.p (PV.asg rfl rfl) (RG.nil (WP.seq (WP.sr (RG.p (PV.move (v := v) rfl rfl) (RG.p (PV.len (v := v) rfl Tryz.underlying50 rfl (SlF.r h2)) (RG.ml rfl (RG.nil (WP.block ?_))))))))
 refine WP.loop2 [5, 6, 7, 8, 24, 25] (fun (i : Nat) (cs : List Bool) => i <= ys.length ∧ cs.length = 6400 ∧ ∀ y x, y < 80 -> x < 80 -> gb cs y x = (gb (bits xs) y x || (ys.take i).any fun r => inR r y x)) (fun (i : Nat) (cs : List Bool) => [(26, vi i)]) (fun (i : Nat) (cs : List Bool) => grd b8 cs :: osl 101 rectT v21 ([] : List Rect) :: grd b6 (bits ys) :: grd b5 (bits xs) :: L) (fun (i : Nat) (cs : List Bool) => ys.length - i) 0 (bits xs) ⟨by omega, hlx, fun y x _ _ => by simp⟩ ⟨rfl, trivial⟩ Cv.p ?_
 rintro i cs τ ⟨hi, hlc, hc⟩
 refine WP.sr (RG.p (PV.lss rfl rfl rfl) (RG.nil (WP.seq ?_)))
 refine WP.cond rfl (fun h3 => ?_) fun h3 => ?_
 ·have h3 := odt h3
  refine WP.skip (WP.seq (WP.block (WP.sr (RG.p (PV.idxS (v := v) rfl Is50 rfl (SlF.r h2) rfl rfl (by omega)) (RG.p (PV.loadE rfl Ag101 rfl rfl (El.r h2 (getG (by omega)))) ?_)))))
  refine RG.ot rfl (OT.alloc rfl Zr101 fun b10 => ?_)
  refine RG.ot rfl (OT.storeW (vs := [vi _, vi _, vi _, vi _]) rfl Sz101 rfl rfl (Cl.c rfl) rfl rfl (OneC.c rfl) ?_)
  refine RG.nil (WP.region (RG.p (PV.move rfl rfl) (RG.p (PV.loadW rfl Ag101 rfl rfl) ?_)))
  refine RG.callF (vs := [_, _]) rfl rfl En68 rfl (CallT.exB (put_s (by assumption) (fun bs' hb' hg' => ?_)))
  refine RG.nil (WP.region (RG.p (PV.add rfl rfl rfl (by omega)) (RG.ml rfl (RG.nil ?_))))
  exact ⟨rfl, i + 1, bs', ⟨by omega, hb', fun y x hy hx => by rw [hg' y x hy hx, hc y x hy hx, List.take_add_one, getG (by omega), List.any_append, Bool.or_assoc]; simp⟩, ⟨rfl, trivial⟩, ⟨rfl, rfl, rfl, rfl, rfl, rfl, trivial⟩, Cv.p, by omega⟩
 ·have h3 := odf h3
  have e : cs = orZ (bits xs) (bits ys) := gb_ext hlc hOl fun y x hy hx => by rw [hc y x hy hx, List.take_of_length_le (by omega), orZ_gb hlx hy hx, gb_bits' ys hy hx]
  subst e
  refine WP.exit (WP.seq (WP.sr ?_))
  refine RG.ot rfl (OT.bslice (F := boolT) (els := [_, _]) rfl El148 rfl (by decide) rfl (by decide) ⟨rfl, (Cl.c rfl), ⟨rfl, (Cl.c rfl), trivial⟩⟩ fun v34 => ?_)
  refine RG.p (PV.len (v := v34) rfl Tryz.underlying148 rfl SlF.o) (RG.ml rfl (RG.nil (WP.block ?_)))
  refine WP.loop3 [5, 6, 8, 34, 35] (fun (n : Nat) (out : List Rect) (q : Value) => n <= 2 ∧ Gp (bits xs) (bits ys) n out) (fun (n : Nat) (out : List Rect) (q : Value) => [(36, vi n), (7, q)]) (fun (n : Nat) (out : List Rect) (q : Value) => osl 101 rectT q out :: osl 4 boolT v34 [false, true] :: grd b8 (orZ (bits xs) (bits ys)) :: grd b6 (bits ys) :: grd b5 (bits xs) :: L) (fun (n : Nat) (out : List Rect) (q : Value) => 2 - n) 0 [] v21 ⟨by omega, Gp.nil⟩ ⟨rfl, rfl, trivial⟩ Cv.p ?_
  rintro n out q τ1 ⟨hn, hG⟩
  refine WP.sr (RG.p (PV.lss rfl rfl rfl) (RG.nil (WP.seq ?_)))
  have hGl := hG.len
  have h2l : ([false, true] : List Bool).length = 2 := rfl
  refine WP.cond rfl (fun h4 => ?_) fun h4 => ?_
  ·have h4 := odt h4
   refine WP.skip (WP.seq (WP.block (WP.sr (RG.p (PV.idxS (v := v34) rfl Is148 rfl SlF.o rfl rfl (by omega)) (RG.p (PV.loadE1 rfl Sc4 rfl rfl (El.o (getG (by omega))) rfl) (RG.br rfl (RG.nil (WP.sr (RG.p (PV.move rfl rfl) (RG.bl rfl ?_))))))))))
   refine RG.callF (vs := [_, _]) rfl rfl En193 rfl (CallT.exB (b := b8) (gapsOf_i hOl (fun v42 outv42 houtv42 => have hlnv42 := houtv42.len; ?_)))
   refine RG.p (PV.len (v := v42) rfl Tryz.underlying50 rfl SlF.o) (RG.ml rfl (RG.nil (WP.block ?_)))
   refine WP.loop3 [5, 6, 8, 12, 34, 35, 36, 42, 43] (fun (j : Nat) (out1 : List Rect) (q1 : Value) => j <= outv42.length ∧ out1 = out ++ (outv42.take j).filter (gapE (bits xs) (bits ys) (gd [false, true] n))) (fun (j : Nat) (out1 : List Rect) (q1 : Value) => [(44, vi j), (7, q1)]) (fun (j : Nat) (out1 : List Rect) (q1 : Value) => osl 101 rectT q1 out1 :: osl 101 rectT v42 outv42 :: osl 4 boolT v34 [false, true] :: grd b8 (orZ (bits xs) (bits ys)) :: grd b6 (bits ys) :: grd b5 (bits xs) :: L) (fun (j : Nat) (out1 : List Rect) (q1 : Value) => outv42.length - j) 0 out q ⟨by omega, by simp⟩ ⟨rfl, rfl, trivial⟩ Cv.p ?_
   rintro j out1 q1 τ2 ⟨hj, hout1⟩
   refine WP.sr (RG.p (PV.lss rfl rfl rfl) (RG.nil (WP.seq ?_)))
   have hol : out1.length <= 20000 := by
    have h5 := List.length_filter_le (gapE (bits xs) (bits ys) (gd [false, true] n)) (outv42.take j)
    rw [hout1, List.length_append]; rw [List.length_take] at h5; omega
   refine WP.cond rfl (fun h5 => ?_) fun h5 => ?_
   ·have h5 := odt h5
    have h50 : j < outv42.length := by omega
    have hrv : validRect (gd outv42 j) = true := by
     obtain ⟨l, k', lo, hi', g1, g2, e⟩ := houtv42.run _ (gd_mem h50)
     rw [e]; exact lineR_valid g1
    have hrb := validR_iff.1 hrv
    have hf := filt_succ (gapE (bits xs) (bits ys) (gd [false, true] n)) h50
    refine WP.skip (WP.seq (WP.block (WP.sr (RG.p (PV.idxS (v := v42) rfl Is50 rfl SlF.o rfl rfl (by omega)) (RG.p (PV.loadE rfl Ag101 rfl rfl (El.o (getG (by omega)))) ?_)))))
    refine RG.ot rfl (OT.alloc rfl Zr101 fun b14 => ?_)
    refine RG.ot rfl (OT.storeW (vs := [vi _, vi _, vi _, vi _]) rfl Sz101 rfl rfl (Cl.c rfl) rfl rfl (OneC.c rfl) ?_)
    refine RG.nil ?_
    refine WP.cut2 [5, 6, 7, 8, 12, 14, 34, 35, 36, 42, 43, 44] (fun (b15 b16 : Nat) => True) (fun (b15 b16 : Nat) => [(15, .pointer (some ⟨b15, 0, none⟩)), (16, .pointer (some ⟨b16, 0, none⟩))]) (fun (b15 b16 : Nat) => blk b15 156 [vi ((gd outv42 j).x0 - 1), vi (gd outv42 j).y0] :: blk b16 156 [vi (gd outv42 j).x1, vi (gd outv42 j).y0] :: blk b14 101 (rectT.enc (gd outv42 j)) :: osl 101 rectT q1 out1 :: osl 101 rectT v42 outv42 :: osl 4 boolT v34 [false, true] :: grd b8 (orZ (bits xs) (bits ys)) :: grd b6 (bits ys) :: grd b5 (bits xs) :: L) ?_ ?_
    refine WP.regionH0 (.q 0 (.q 1 (.q 2 (.q 3 (.q 4 (.q 5 (.q 6 (.q 7 (.q 8 (.q 9 (.q 10 (.b 11 (.l 12 (.l 13 (.l 14 Sch.nil))) 12 (.l 11 (.l 13 (.l 14 Sch.nil))))))))))))))) (by kernel_rfl) (by kernel_rfl) (by kernel_rfl) rfl ?_
    refine RH.w rfl rfl (PV.field rfl Fo101_0 rfl) (RH.w rfl rfl (PV.load1 rfl Sc2 rfl (Rd.blk rfl)) (RH.w rfl rfl (PV.sub rfl rfl rfl (by omega)) (RH.w rfl rfl (PV.field rfl Fo101_1 rfl) (RH.w rfl rfl (PV.load1 rfl Sc2 rfl (Rd.blk rfl)) (RH.w rfl rfl (PV.build (vs := [(0, [vi _]), (1, [vi _])]) (out := [_, _]) rfl Zr156 Pl156 ⟨rfl, (Cl.c rfl), ⟨rfl, (Cl.c rfl), trivial⟩⟩ rfl) (RH.w rfl rfl (PV.field rfl Fo101_2 rfl) (RH.w rfl rfl (PV.load1 rfl Sc2 rfl (Rd.blk rfl)) (RH.w rfl rfl (PV.field rfl Fo101_1 rfl) (RH.w rfl rfl (PV.load1 rfl Sc2 rfl (Rd.blk rfl)) (RH.w rfl rfl (PV.build (vs := [(0, [vi _]), (1, [vi _])]) (out := [_, _]) rfl Zr156 Pl156 ⟨rfl, (Cl.c rfl), ⟨rfl, (Cl.c rfl), trivial⟩⟩ rfl) ?_))))))))))
    ·refine RH.ot2 rfl rfl rfl rfl  (OT.alloc rfl Zr156 fun b15 => (kp ?_)) (OT.alloc rfl Zr156 fun b16 => (kp ?_))
     ·refine RH.ot rfl rfl (OT.alloc rfl Zr156 fun b16 => (kp ?_))
      refine RH.ot rfl rfl (OT.storeW (vs := [vi _, vi _]) rfl Sz156 rfl rfl (Cl.c rfl) rfl rfl (OneC.c rfl) (kp ?_))
      refine RH.ot rfl rfl (OT.storeW (vs := [vi _, vi _]) rfl Sz156 rfl rfl (Cl.c rfl) rfl rfl (OneC.c rfl) (kp ?_))
      refine RH.nil ?_
      exact ⟨rfl, b15, b16, trivial, ⟨rfl, rfl, trivial⟩, ⟨rfl, rfl, rfl, rfl, rfl, rfl, rfl, rfl, rfl, rfl, rfl, rfl, trivial⟩, Cv.p⟩
     ·refine RH.ot rfl rfl (OT.alloc rfl Zr156 fun b15 => (kp ?_))
      refine RH.ot rfl rfl (OT.storeW (vs := [vi _, vi _]) rfl Sz156 rfl rfl (Cl.c rfl) rfl rfl (OneC.c rfl) (kp ?_))
      refine RH.ot rfl rfl (OT.storeW (vs := [vi _, vi _]) rfl Sz156 rfl rfl (Cl.c rfl) rfl rfl (OneC.c rfl) (kp ?_))
      refine RH.nil ?_
      exact ⟨rfl, b15, b16, trivial, ⟨rfl, rfl, trivial⟩, ⟨rfl, rfl, rfl, rfl, rfl, rfl, rfl, rfl, rfl, rfl, rfl, rfl, trivial⟩, Cv.p⟩
    rintro b15 b16 τ3 -
    refine WP.cut4 [5, 6, 7, 8, 12, 14, 15, 16, 34, 35, 36, 42, 43, 44] (fun (sx sy dx dy : Int) => (⟨sx, sy⟩ : Pt) = endP (gd outv42 j) (gd [false, true] n) ∧ (⟨dx, dy⟩ : Pt) = endQ (gd outv42 j) (gd [false, true] n)) (fun (sx sy dx dy : Int) => []) (fun (sx sy dx dy : Int) => blk b15 156 [vi sx, vi sy] :: blk b16 156 [vi dx, vi dy] :: blk b14 101 (rectT.enc (gd outv42 j)) :: osl 101 rectT q1 out1 :: osl 101 rectT v42 outv42 :: osl 4 boolT v34 [false, true] :: grd b8 (orZ (bits xs) (bits ys)) :: grd b6 (bits ys) :: grd b5 (bits xs) :: L) ?_ ?_
    refine WP.sr (RG.bl rfl (RG.nil ?_))
    refine WP.cond rfl (fun h6 => ?_) fun h6 => ?_
    ·refine WP.regionHD [.b b15, .b b16] (.q 0 (.q 1 (.q 2 (.q 3 (.q 4 (.q 5 (.q 6 (.q 7 (.q 8 (.q 9 (.q 10 (.l 11 (.l 12 Sch.nil))))))))))))) (by kernel_rfl) (by kernel_rfl) (by kernel_rfl) rfl ?_
     refine RH.w rfl rfl (PV.field rfl Fo101_0 rfl) (RH.w rfl rfl (PV.load1 rfl Sc2 rfl (Rd.blk rfl)) (RH.w rfl rfl (PV.field rfl Fo101_1 rfl) (RH.w rfl rfl (PV.load1 rfl Sc2 rfl (Rd.blk rfl)) (RH.w rfl rfl (PV.sub rfl rfl rfl (by omega)) (RH.w rfl rfl (PV.build (vs := [(0, [vi _]), (1, [vi _])]) (out := [_, _]) rfl Zr156 Pl156 ⟨rfl, (Cl.c rfl), ⟨rfl, (Cl.c rfl), trivial⟩⟩ rfl) (RH.w rfl rfl (PV.field rfl Fo101_0 rfl) (RH.w rfl rfl (PV.load1 rfl Sc2 rfl (Rd.blk rfl)) (RH.w rfl rfl (PV.field rfl Fo101_3 rfl) (RH.w rfl rfl (PV.load1 rfl Sc2 rfl (Rd.blk rfl)) (RH.w rfl rfl (PV.build (vs := [(0, [vi _]), (1, [vi _])]) (out := [_, _]) rfl Zr156 Pl156 ⟨rfl, (Cl.c rfl), ⟨rfl, (Cl.c rfl), trivial⟩⟩ rfl) ?_))))))))))
     refine RH.ot rfl rfl (OT.storeW (vs := [vi _, vi _]) rfl Sz156 rfl rfl (Cl.c rfl) rfl rfl (OneC.c rfl) (kp ?_))
     refine RH.ot rfl rfl (OT.storeW (vs := [vi _, vi _]) rfl Sz156 rfl rfl (Cl.c rfl) rfl rfl (OneC.c rfl) (kp ?_))
     refine RH.nil ?_
     exact ⟨rfl, (gd outv42 j).x0, ((gd outv42 j).y0 - 1), (gd outv42 j).x0, (gd outv42 j).y1, ⟨by rw [h6]; rfl, by rw [h6]; rfl⟩, trivial, ⟨rfl, rfl, rfl, rfl, rfl, rfl, rfl, rfl, rfl, rfl, rfl, rfl, rfl, rfl, trivial⟩, Cv.p⟩
    ·refine WP.skip ?_
     exact ⟨rfl, ((gd outv42 j).x0 - 1), (gd outv42 j).y0, (gd outv42 j).x1, (gd outv42 j).y0, ⟨by rw [h6]; rfl, by rw [h6]; rfl⟩, trivial, ⟨rfl, rfl, rfl, rfl, rfl, rfl, rfl, rfl, rfl, rfl, rfl, rfl, rfl, rfl, trivial⟩, Cv.p⟩
    rintro sx sy dx dy τ4 ⟨hs, hd⟩
    have hgE : gapE (bits xs) (bits ys) (gd [false, true] n) (gd outv42 j) = ((cellB (bits xs) sx sy && cellB (bits ys) dx dy) || (cellB (bits ys) sx sy && cellB (bits xs) dx dy)) := by rw [gapE, <- hs, <- hd]; rfl
    rw [hgE] at hf
    refine WP.sr (RG.p (PV.move rfl rfl) (RG.p (PV.field rfl Fo156_0 rfl) (RG.p (PV.load1 rfl Sc2 rfl (Rd.blk rfl)) (RG.p (PV.field rfl Fo156_1 rfl) (RG.p (PV.load1 rfl Sc2 rfl (Rd.blk rfl)) ?_)))))
    refine RG.callF (vs := [_, _, _]) rfl rfl En194 rfl (CallT.readB (has_s hlx ⟨rfl, rfl, rfl⟩) ?_)
    refine RG.bl rfl ?_
    refine RG.g rfl (fun hp => (PV.move rfl rfl)) ?_
    refine RG.g rfl (fun hp => (PV.field rfl Fo156_0 rfl)) ?_
    refine RG.g rfl (fun hp => (PV.load1 rfl Sc2 (gt' hp) (Rd.blk rfl))) ?_
    refine RG.g rfl (fun hp => (PV.field rfl Fo156_1 rfl)) ?_
    refine RG.g rfl (fun hp => (PV.load1 rfl Sc2 (gt' hp) (Rd.blk rfl))) ?_
    refine RG.gsC rfl rfl rfl rfl En194 (fun hp => ⟨_, (acons (gt' hp) (acons (gt' hp) (acons (gt' hp) anil))), CallT.readB (has_s hly ⟨rfl, rfl, rfl⟩) ⟨rfl, rfl, rfl⟩⟩) ?_
    refine RG.p (PV.pickA rfl rfl (fun hq => gt' (geqT hq)) rfl) (RG.bl rfl ?_)
    refine RG.g rfl (fun hp => (PV.move rfl rfl)) ?_
    refine RG.g rfl (fun hp => (PV.field rfl Fo156_0 rfl)) ?_
    refine RG.g rfl (fun hp => (PV.load1 rfl Sc2 (gt' hp) (Rd.blk rfl))) ?_
    refine RG.g rfl (fun hp => (PV.field rfl Fo156_1 rfl)) ?_
    refine RG.g rfl (fun hp => (PV.load1 rfl Sc2 (gt' hp) (Rd.blk rfl))) ?_
    refine RG.gsC rfl rfl rfl rfl En194 (fun hp => ⟨_, (acons (gt' hp) (acons (gt' hp) (acons (gt' hp) anil))), CallT.readB (has_s hly ⟨rfl, rfl, rfl⟩) ⟨rfl, rfl, rfl⟩⟩) ?_
    refine RG.g rfl (fun hp => (PV.mvB (.inl rfl) (gt' hp))) ?_
    refine RG.gs2 rfl rfl rfl (fun hp => (PV.move rfl rfl)) (RG.gs2 rfl rfl rfl (fun hp => (PV.field rfl Fo156_0 rfl)) (RG.gs2 rfl rfl rfl (fun hp => (PV.load1 rfl Sc2 (gt' hp) (Rd.blk rfl))) (RG.gs2 rfl rfl rfl (fun hp => (PV.field rfl Fo156_1 rfl)) (RG.gs2 rfl rfl rfl (fun hp => (PV.load1 rfl Sc2 (gt' hp) (Rd.blk rfl))) ?_))))
    refine RG.gsC2 rfl rfl rfl rfl En194 (fun hp => ⟨_, (acons (gt' hp) (acons (gt' hp) (acons (gt' hp) anil))), CallT.readB (has_s hlx ⟨rfl, rfl, rfl⟩) ⟨rfl, rfl, rfl⟩⟩) ?_
    refine RG.g rfl (fun hp => (PV.pickA rfl (gt' hp) (fun hq => gt' (gandT hp hq)) rfl)) ?_
    refine RG.p (PV.pickO rfl rfl rfl (fun hq => gt' (geqF hq))) (RG.nil ?_)
    refine WP.cond rfl (fun h7 => ?_) fun h7 => ?_
    ·rw [if_pos h7] at hf
     refine WP.region (RG.p (PV.move (v := q1) rfl rfl) (RG.p (PV.loadW rfl Ag101 rfl rfl) ?_))
     refine RG.ot rfl (OT.bslice (F := rectT) (els := [_]) rfl El50 rfl (by decide) rfl (by decide) ⟨rfl, (Cl.c rfl), trivial⟩ fun v103 => ?_)
     refine RG.ot rfl (OT.append (v := q1) (u := v103) (F := rectT) rfl El50 rfl (by decide) rfl rfl Rs.o (OneL.c (fun _ => rfl)) rfl (by first | omega | (simp <;> omega)) fun v104 => ?_)
     refine RG.p (PV.asg (v := v104) rfl rfl) (RG.nil (WP.region (RG.p (PV.add rfl rfl rfl (by omega)) (RG.ml rfl (RG.nil ?_)))))
     exact ⟨rfl, j + 1, (out1 ++ [gd outv42 j]), v104, ⟨by omega, by rw [hout1, hf, List.append_assoc]⟩, ⟨rfl, rfl, trivial⟩, ⟨rfl, rfl, rfl, rfl, rfl, rfl, rfl, rfl, rfl, trivial⟩, Cv.p, by omega⟩
    ·rw [if_neg (by rw [h7]; decide), List.append_nil] at hf
     refine WP.skip (WP.region (RG.p (PV.add rfl rfl rfl (by omega)) (RG.ml rfl (RG.nil ?_))))
     exact ⟨rfl, j + 1, out1, q1, ⟨by omega, by rw [hout1, hf]⟩, ⟨rfl, rfl, trivial⟩, ⟨rfl, rfl, rfl, rfl, rfl, rfl, rfl, rfl, rfl, trivial⟩, Cv.p, by omega⟩
   ·have h5 := odf h5
    rw [List.take_of_length_le (by omega)] at hout1
    have hG1 := hG.next houtv42
    rw [<- hout1] at hG1
    refine WP.exit (WP.region (RG.p (PV.add rfl rfl rfl (by omega)) (RG.ml rfl (RG.nil ?_))))
    exact ⟨rfl, n + 1, out1, q1, ⟨by omega, hG1⟩, ⟨rfl, rfl, trivial⟩, ⟨rfl, rfl, rfl, rfl, rfl, trivial⟩, Cv.p, by omega⟩
  ·have h4 := odf h4
   obtain rfl : n = 2 := by omega
   refine WP.exit (WP.sr (RG.p (PV.move (v := q) rfl rfl) (RG.p (PV.asg (v := q) rfl rfl) (RG.nil ?_))))
   exact WP.ret ⟨_, _, rv rfl rfl, Cv.p, k q out hG.done⟩
theorem bits_app {xs ys : List Rect} {y x : Nat} (hy : y < 80) (hx : x < 80) : gb (bits (xs ++ ys)) y x = (gb (bits xs) y x || gb (bits ys) y x) := by rw [gb_bits' _ hy hx, gb_bits' _ hy hx, gb_bits' _ hy hx, List.any_append]
theorem RsE.two {a b : Sl Rect} (ha : Rs G L rectT a.v a.xs) (hb : Rs G L rectT b.v b.xs) : RsE G L rectT [a, b] := fun i hi => by
 rcases Nat.lt_or_ge i 1 with h | h
 ·obtain rfl : i = 0 := by omega
  rw [show gd [a, b] 0 = a by simp [gd]]; exact ha
 ·obtain rfl : i = 1 := by simp at hi; omega
  rw [show gd [a, b] 1 = b by simp [gd]]; exact hb
theorem markBetween_i {u v : Value} {xs ys : List Rect} {w : Int} (h1 : Rs G L rectT u xs) (h2 : Rs G L rectT v ys) (k : ∀ v', R v' G (osl 101 rectT v' (betwL xs ys w) :: L)) : CallT Tryz.prog 89 #[u, v, vi w] G L R := by
 refine CallT.enter (args := _) Tryz.func89 rfl rfl (by kernel_rfl) rfl ?_
 refine WP.sr (RG.p (PV.asg rfl rfl) (RG.nil (WP.seq (WP.sr (RG.p (PV.move (v := u) rfl rfl) (RG.ml rfl ?_))))))
 refine RG.callF (vs := [u, _]) rfl rfl En134 rfl (checkable_i (Rs.up h1) ?_)
 refine RG.p (PV.not rfl rfl) (RG.bl rfl ?_)
 refine RG.g rfl (fun hp => (PV.move (v := v) rfl rfl)) ?_
 refine RG.gsC rfl rfl rfl rfl En72 (fun hp => ⟨_, (acons (gt' hp) anil), isRegion_s (Rs.up h2) ⟨rfl, rfl, rfl⟩⟩) ?_
 refine RG.g rfl (fun hp => (PV.not rfl (gt' hp))) ?_
 refine RG.p (PV.pickO rfl rfl rfl (fun hq => gt' (geqF hq))) (RG.nil ?_)
 refine WP.cond rfl (fun h3 => ?_) fun h3 => ?_
 ·have e : betwL xs ys w = [] := by rw [betwL, if_neg]; intro h4; cases g1 : isReg xs <;> cases g2 : isReg ys <;> cases g3 : okDist w <;> simp_all
  rw [e] at k
  refine WP.sr (RG.p (PV.asg rfl rfl) (RG.nil ?_))
  exact WP.ret ⟨_, _, rv rfl rfl, Cv.nilS, k _⟩
 ·have h4 : isReg xs = true ∧ isReg ys = true ∧ okDist w = true := by cases g1 : isReg xs <;> cases g2 : isReg ys <;> cases g3 : okDist w <;> simp_all
  refine WP.skip (WP.sr (RG.p (PV.move (v := u) rfl rfl) (RG.p (PV.move (v := v) rfl rfl) ?_)))
  refine RG.callF (vs := [u, v]) rfl rfl En139 rfl (gapsBetween_i (Rs.up h1) (Rs.up h2) (fun v18 outv18 houtv18 => have hlnv18 := houtv18.len; ?_))
  refine RG.ml rfl ?_
  refine RG.callF (vs := [v18, _]) rfl rfl En135 rfl (shorter_i Rs.o (gapsA_valid houtv18) (by omega) (fun v20 Ev20 hEv20 hgv20 => ?_))
  refine RG.p (PV.move (v := u) rfl rfl) (RG.p (PV.move (v := v) rfl rfl) ?_)
  refine RG.callF (vs := [u, v]) rfl rfl En140 rfl (inter_s (Rs.up h1) (Rs.up h2) (fun v23 => ?_))
  refine RG.ot rfl (OT.bslice (F := (slT (α := Rect))) (els := [⟨v20, canon Ev20⟩, ⟨v23, opR (fun p q => p && q) xs ys⟩]) rfl El35 rfl (by decide) rfl (by decide) ⟨rfl, (Cl.s (v := v20) SlF.o), ⟨rfl, (Cl.s (v := v23) SlF.o), trivial⟩⟩ fun v24 => ?_)
  refine RG.callF (vs := [v24]) rfl rfl En138 rfl (unionAll_s (xs := [⟨v20, canon Ev20⟩, ⟨v23, opR (fun p q => p && q) xs ys⟩]) Rs.o (RsE.two Rs.o Rs.o) (fun v25 => ?_))
  refine RG.p (PV.asg (v := v25) rfl rfl) (RG.nil ?_)
  refine WP.ret ?_
  have e : betwL xs ys w = canon (bits (er [(⟨v20, canon Ev20⟩ : Sl Rect), ⟨v23, opR (fun p q => p && q) xs ys⟩]).flatten) := by
   have hz : opR (fun p q => p && q) xs ys = canon (zipB (fun p q => p && q) (bits xs) (bits ys)) := by simp [opR, h4.1, h4.2.1]
   have hzl := zipB_len (f := fun p q => p && q) (bits_length xs) (bits_length ys)
   rw [betwL, if_pos (by rw [h4.1, h4.2.1, h4.2.2]; rfl)]
   refine congrArg canon (celL_eq (bits_length _) fun y x hy hx => ?_).symm
   rw [show (er [(⟨v20, canon Ev20⟩ : Sl Rect), ⟨v23, opR (fun p q => p && q) xs ys⟩]).flatten = canon Ev20 ++ opR (fun p q => p && q) xs ys by simp [er], bits_app hy hx, bits_canon hEv20, hz, bits_canon hzl, Bool.or_eq_true, hgv20 y x hy hx, near_iff houtv18, gb, zipB_gd (by rw [bits_length]; omega) (by rw [bits_length]; omega), Bool.and_eq_true]
   rfl
  rw [e] at k
  exact ⟨_, _, rv rfl rfl, Cv.p, k v25⟩
theorem markEncl0_i {u v : Value} {xs ys : List Rect} {w : Int} (h1 : Rs G L rectT u xs) (h2 : Rs G L rectT v ys) (hreg : isReg xs = true) (hregy : isReg ys = true) (hw : 0 <= w ∧ w <= 8) (k : ∀ v', R v' G (osl 101 rectT v' (enclL xs ys w) :: L)) : CallT Tryz.prog 141 #[u, v, vi w] G L R := by
 have e : enclL xs ys w = opR (fun p q => p && !q) (canon (growB (bits xs) w)) ys := by
  rw [enclL, if_pos (by simp [hreg, hregy, within, hw.1, hw.2]), opR, isReg_canon (growB_len _ _), hregy, bits_canon (growB_len _ _)]; rfl
 rw [e] at k
 refine CallT.enter (args := _) Tryz.func141 rfl rfl (by kernel_rfl) rfl ?_
 refine WP.sr (RG.p (PV.asg rfl rfl) (RG.nil (WP.sr (RG.p (PV.move (v := u) rfl rfl) (RG.ml rfl ?_)))))
 refine RG.callF (vs := [u, _]) rfl rfl En196 rfl (grow_s (Rs.up h1) (fun r hr => by have := validR_iff.1 (valid_mem (isReg_valid hreg) hr); omega) (by omega) (fun v9 => ?_))
 refine RG.p (PV.move (v := v) rfl rfl) ?_
 refine RG.callF (vs := [v9, v]) rfl rfl En146 rfl (diff_s Rs.o (Rs.up h2) (fun v11 => ?_))
 refine RG.p (PV.asg (v := v11) rfl rfl) (RG.nil ?_)
 exact WP.ret ⟨_, _, rv rfl rfl, Cv.p, k v11⟩
theorem markEncl_i {u v : Value} {xs ys : List Rect} {w : Int} (h1 : Rs G L rectT u xs) (h2 : Rs G L rectT v ys) (k : ∀ v', R v' G (osl 101 rectT v' (enclL xs ys w) :: L)) : CallT Tryz.prog 90 #[u, v, vi w] G L R := by
 refine CallT.enter (args := _) Tryz.func90 rfl rfl (by kernel_rfl) rfl ?_
 refine WP.sr (RG.p (PV.asg rfl rfl) (RG.nil (WP.seq (WP.sr (RG.p (PV.move (v := u) rfl rfl) ?_)))))
 refine RG.callF (vs := [u]) rfl rfl En72 rfl (isRegion_s (Rs.up h1) ?_)
 refine RG.p (PV.not rfl rfl) (RG.bl rfl ?_)
 refine RG.g rfl (fun hp => (PV.move (v := v) rfl rfl)) ?_
 refine RG.gsC rfl rfl rfl rfl En72 (fun hp => ⟨_, (acons (gt' hp) anil), isRegion_s (Rs.up h2) ⟨rfl, rfl, rfl⟩⟩) ?_
 refine RG.g rfl (fun hp => (PV.not rfl (gt' hp))) ?_
 refine RG.p (PV.pickO rfl rfl rfl (fun hq => gt' (geqF hq))) (RG.bl rfl ?_)
 refine RG.g rfl (fun hp => (PV.mvI (.inl rfl) rfl)) ?_
 refine RG.gsC rfl rfl rfl rfl En56 (fun hp => ⟨_, (acons (gt' hp) (acons rfl (acons rfl anil))), within_s ⟨rfl, rfl, rfl⟩⟩) ?_
 refine RG.g rfl (fun hp => (PV.not rfl (gt' hp))) ?_
 refine RG.p (PV.pickO rfl rfl rfl (fun hq => gt' (geqF hq))) (RG.nil ?_)
 refine WP.cond rfl (fun h3 => ?_) fun h3 => ?_
 ·have e : enclL xs ys w = [] := by rw [enclL, if_neg]; intro h4; cases g1 : isReg xs <;> cases g2 : isReg ys <;> cases g3 : within w 0 8 <;> simp_all
  rw [e] at k
  refine WP.sr (RG.p (PV.asg rfl rfl) (RG.nil ?_))
  exact WP.ret ⟨_, _, rv rfl rfl, Cv.nilS, k _⟩
 ·have h4 : isReg xs = true ∧ isReg ys = true ∧ 0 <= w ∧ w <= 8 := by cases g1 : isReg xs <;> cases g2 : isReg ys <;> simp_all [within]
  refine WP.skip (WP.sr (RG.p (PV.move (v := u) rfl rfl) (RG.p (PV.move (v := v) rfl rfl) (RG.ml rfl ?_))))
  refine RG.callF (vs := [u, v, _]) rfl rfl En141 rfl (markEncl0_i (Rs.up h1) (Rs.up h2) h4.1 h4.2.1 h4.2.2 (fun v23 => ?_))
  refine RG.p (PV.asg (v := v23) rfl rfl) (RG.nil ?_)
  exact WP.ret ⟨_, _, rv rfl rfl, Cv.p, k v23⟩
theorem windows_i {w : Int} (k : ∀ v', R v' G (osl 101 rectT v' (windL w) :: L)) : CallT Tryz.prog 143 #[vi w] G L R := by
 refine CallT.enter (args := _) Tryz.func143 rfl rfl (by kernel_rfl) rfl ?_
 refine WP.sr (RG.p (PV.asg rfl rfl) (RG.nil (WP.seq (WP.sr (RG.ml rfl ?_)))))
 refine RG.callF (vs := [_, _, _]) rfl rfl En56 rfl (within_s ?_)
 refine RG.p (PV.not rfl rfl) (RG.nil ?_)
 refine WP.cond rfl (fun h2 => ?_) fun h2 => ?_
 ·have e : windL w = [] := by rw [windL, if_neg]; intro h3; rw [h3] at h2; simp at h2
  rw [e] at k
  refine WP.sr (RG.p (PV.asg rfl rfl) (RG.nil ?_))
  exact WP.ret ⟨_, _, rv rfl rfl, Cv.nilS, k _⟩
 ·have h20 : within w 4 40 = true := by simpa using h2
  have h3 : 4 <= w ∧ w <= 40 := by simpa [within] using h20
  have hwl := (winY_facts (w := w) (by omega) (-40) (by omega)).1
  have e : windL w = winY w (-40) := by rw [windL, if_pos h20]
  rw [e] at k
  refine WP.skip (WP.sr ?_)
  refine RG.ot rfl (OT.bslice (F := rectT) (els := []) rfl El50 rfl (by decide) rfl (by decide) trivial fun v9 => ?_)
  refine RG.p (PV.asg (v := v9) rfl rfl) (RG.nil (WP.seq (WP.sr (RG.mr rfl (RG.nil (WP.block ?_))))))
  refine WP.loop3 [0] (fun (y : Int) (zs : List Rect) (q : Value) => (-40 <= y ∧ y <= 80) ∧ zs ++ winY w y = winY w (-40)) (fun (y : Int) (zs : List Rect) (q : Value) => [(4, vi y), (3, q)]) (fun (y : Int) (zs : List Rect) (q : Value) => osl 101 rectT q zs :: L) (fun (y : Int) (zs : List Rect) (q : Value) => (80 - y).toNat) (-40) [] v9 ⟨by omega, rfl⟩ ⟨rfl, rfl, trivial⟩ Cv.p ?_
  rintro y zs q τ ⟨hy, hz⟩
  refine WP.seq (WP.sr (RG.ml rfl (RG.p (PV.lss rfl rfl rfl) (RG.nil ?_))))
  refine WP.cond rfl (fun h4 => ?_) fun h4 => ?_
  ·have h4 := odt h4
   rw [winY_on (by omega) h4] at hz
   refine WP.skip (WP.seq (WP.block (WP.sr (RG.mr rfl (RG.nil (WP.block ?_))))))
   refine WP.loop3 [0, 4] (fun (x : Int) (zs2 : List Rect) (q2 : Value) => (-40 <= x ∧ x <= 80) ∧ zs2 ++ (winX w y x ++ winY w (y + w)) = winY w (-40)) (fun (x : Int) (zs2 : List Rect) (q2 : Value) => [(5, vi x), (3, q2)]) (fun (x : Int) (zs2 : List Rect) (q2 : Value) => osl 101 rectT q2 zs2 :: L) (fun (x : Int) (zs2 : List Rect) (q2 : Value) => (80 - x).toNat) (-40) zs q ⟨by omega, hz⟩ ⟨rfl, rfl, trivial⟩ Cv.p ?_
   rintro x zs2 q2 τ1 ⟨hx, hz2⟩
   refine WP.seq (WP.sr (RG.ml rfl (RG.p (PV.lss rfl rfl rfl) (RG.nil ?_))))
   have hz2l := congrArg List.length hz2
   rw [List.length_append] at hz2l
   refine WP.cond rfl (fun h5 => ?_) fun h5 => ?_
   ·have h5 := odt h5
    rw [winX_on (by omega) h5] at hz2
    refine WP.skip (WP.seq (WP.block (WP.region (RG.p (PV.move (v := q2) rfl rfl) (RG.ml rfl (RG.ml rfl (RG.ml rfl (RG.ml rfl (RG.p (PV.add rfl rfl rfl (by omega)) (RG.p (PV.min2 rfl rfl rfl) (RG.ml rfl (RG.ml rfl (RG.p (PV.add rfl rfl rfl (by omega)) ?_)))))))))))))
    refine RG.p (PV.min2 rfl rfl rfl) (RG.p (PV.build (vs := [(0, [vi _]), (1, [vi _]), (2, [vi _]), (3, [vi _])]) (out := [_, _, _, _]) rfl Zr101 Pl101 ⟨rfl, (Cl.c rfl), ⟨rfl, (Cl.c rfl), ⟨rfl, (Cl.c rfl), ⟨rfl, (Cl.c rfl), trivial⟩⟩⟩⟩ rfl) ?_)
    refine RG.ot rfl (OT.bslice (F := rectT) (els := [⟨_, _, _, _⟩]) rfl El50 rfl (by decide) rfl (by decide) ⟨rfl, (Cl.c rfl), trivial⟩ fun v32 => ?_)
    refine RG.ot rfl (OT.append (v := q2) (u := v32) (F := rectT) rfl El50 rfl (by decide) rfl rfl Rs.o (OneL.c (fun _ => rfl)) rfl (by first | omega | (simp <;> omega)) fun v33 => ?_)
    refine RG.p (PV.asg (v := v33) rfl rfl) (RG.nil (WP.region (RG.ml rfl (RG.ml rfl (RG.p (PV.add rfl rfl rfl (by omega)) (RG.mr rfl (RG.nil ?_)))))))
    exact ⟨rfl, x + w, (zs2 ++ [⟨x, y, min (x + w) 40, min (y + w) 40⟩]), v33, ⟨by omega, by rw [<- hz2]; simp [winR]⟩, ⟨rfl, rfl, trivial⟩, ⟨rfl, rfl, trivial⟩, Cv.p, by omega⟩
   ·have h5 := odf h5
    rw [winX_off h5, List.nil_append] at hz2
    refine WP.exit (WP.region (RG.ml rfl (RG.ml rfl (RG.p (PV.add rfl rfl rfl (by omega)) (RG.mr rfl (RG.nil ?_))))))
    exact ⟨rfl, y + w, zs2, q2, ⟨by omega, hz2⟩, ⟨rfl, rfl, trivial⟩, ⟨rfl, trivial⟩, Cv.p, by omega⟩
  ·have h4 := odf h4
   rw [winY_off h4, List.append_nil] at hz
   rw [hz]
   refine WP.exit (WP.sr (RG.p (PV.move (v := q) rfl rfl) (RG.p (PV.asg (v := q) rfl rfl) (RG.nil ?_))))
   exact WP.ret ⟨_, _, rv rfl rfl, Cv.p, k q⟩
theorem covd_i {v : Value} {xs : List Rect} {r : Rect} (h1 : Rs G L rectT v xs) (hreg : isReg xs = true) (hr : validRect r = true) (k : R (vi (covB (bits xs) r)) G L) : CallT Tryz.prog 144 #[v, vrect r] G L R :=
 covered_s h1 (isReg_len hreg) (by rw [cov_eq hreg hr]; exact k)
theorem markDens_i {v : Value} {xs : List Rect} {w p : Int} (h1 : Rs G L rectT v xs) (k : ∀ v', R v' G (osl 101 rectT v' (densL xs w p) :: L)) : CallT Tryz.prog 92 #[v, vi w, vi p] G L R := by
 refine CallT.enter (args := _) Tryz.func92 rfl rfl (by kernel_rfl) rfl ?_
 refine WP.sr (RG.p (PV.asg rfl rfl) (RG.nil (WP.seq (WP.sr (RG.p (PV.move (v := v) rfl rfl) ?_)))))
 refine RG.callF (vs := [v]) rfl rfl En72 rfl (isRegion_s (Rs.up h1) ?_)
 refine RG.p (PV.not rfl rfl) (RG.bl rfl ?_)
 refine RG.g rfl (fun hp => (PV.mvI (.inl rfl) rfl)) ?_
 refine RG.gsC rfl rfl rfl rfl En56 (fun hp => ⟨_, (acons (gt' hp) (acons rfl (acons rfl anil))), within_s ⟨rfl, rfl, rfl⟩⟩) ?_
 refine RG.g rfl (fun hp => (PV.not rfl (gt' hp))) ?_
 refine RG.p (PV.pickO rfl rfl rfl (fun hq => gt' (geqF hq))) (RG.bl rfl ?_)
 refine RG.g rfl (fun hp => (PV.mvI (.inl rfl) rfl)) ?_
 refine RG.gsC rfl rfl rfl rfl En56 (fun hp => ⟨_, (acons (gt' hp) (acons rfl (acons rfl anil))), within_s ⟨rfl, rfl, rfl⟩⟩) ?_
 refine RG.g rfl (fun hp => (PV.not rfl (gt' hp))) ?_
 refine RG.p (PV.pickO rfl rfl rfl (fun hq => gt' (geqF hq))) (RG.nil ?_)
 refine WP.cond rfl (fun h3 => ?_) fun h3 => ?_
 ·have e : densL xs w p = [] := by rw [densL, if_neg]; intro h4; cases g1 : isReg xs <;> cases g2 : within w 4 40 <;> cases g3 : within p 1 100 <;> simp_all
  rw [e] at k
  refine WP.sr (RG.p (PV.asg rfl rfl) (RG.nil ?_))
  exact WP.ret ⟨_, _, rv rfl rfl, Cv.nilS, k _⟩
 ·have h4 : isReg xs = true ∧ within w 4 40 = true ∧ within p 1 100 = true := by cases g1 : isReg xs <;> cases g2 : within w 4 40 <;> cases g3 : within p 1 100 <;> simp_all
  have hreg := h4.1
  have hpb : 1 <= p ∧ p <= 100 := by simpa [within] using h4.2.2
  have hbx := bits_length xs
  have hzl := (windL_facts w).1
  have hzv := (windL_facts w).2
  refine WP.skip (WP.sr (RG.p (PV.build0 rfl Tryz.underlying125 ⟨80, by kernel_rfl⟩ (zeroB_spec (n := 6400) (by kernel_rfl))) ?_))
  refine RG.ot rfl (OT.boxG rfl rfl fun b24 => ?_)
  refine RG.p (PV.mvP (.inr rfl) rfl) (RG.nil (WP.seq (WP.sr (RG.ml rfl ?_))))
  refine RG.callF (vs := [_]) rfl rfl En143 rfl (windows_i (fun v26 => ?_))
  refine RG.p (PV.len (v := v26) rfl Tryz.underlying50 rfl SlF.o) (RG.ml rfl (RG.nil (WP.block ?_)))
  refine WP.loop2 [0, 2, 7, 26, 27] (fun (i : Nat) (E : List Bool) => i <= (windL w).length ∧ Is E (Bare (bits xs) ((windL w).take i) p)) (fun (i : Nat) (E : List Bool) => [(28, vi i)]) (fun (i : Nat) (E : List Bool) => grd b24 E :: osl 101 rectT v26 (windL w) :: L) (fun (i : Nat) (E : List Bool) => (windL w).length - i) 0 (List.replicate 6400 false) ⟨by omega, Is.none _ rfl fun v u _ _ => by rintro ⟨c, hc, _⟩; simp at hc⟩ ⟨rfl, trivial⟩ Cv.p ?_
  rintro i E τ ⟨hi, hE⟩
  refine WP.sr (RG.p (PV.lss rfl rfl rfl) (RG.nil (WP.seq ?_)))
  have hEl := hE.1
  refine WP.cond rfl (fun h5 => ?_) fun h5 => ?_
  ·have h5 := odt h5
   have hvi := hzv _ (gd_mem (show i < (windL w).length by omega))
   have hlb := area_bd hvi
   have hmb := mulP_bd hpb hlb
   have hcb := covB_bd (S := bits xs) hvi
   have hnx := fun y x => Bare.next (S := bits xs) (ws := windL w) (p := p) (y := y) (x := x) (i := i) (by omega)
   refine WP.skip (WP.seq (WP.block (WP.sr (RG.p (PV.idxS (v := v26) rfl Is50 rfl SlF.o rfl rfl (by omega)) (RG.p (PV.loadE rfl Ag101 rfl rfl (El.o (getG (by omega)))) ?_)))))
   refine RG.ot rfl (OT.alloc rfl Zr101 fun b9 => ?_)
   refine RG.ot rfl (OT.storeW (vs := [vi _, vi _, vi _, vi _]) rfl Sz101 rfl rfl (Cl.c rfl) rfl rfl (OneC.c rfl) ?_)
   refine RG.nil (WP.seq ?_)
   refine WP.regionQ (by kernel_rfl) (by kernel_rfl) ?_
   refine RQ.pv rfl (PV.move (v := v) rfl rfl) (RQ.pv rfl (PV.loadW rfl Ag101 rfl rfl) ?_)
   refine RQ.callF (vs := [v, _]) rfl rfl En144 rfl (covd_i (Rs.up h1) hreg hvi ⟨rfl, rfl, rfl⟩) ?_
   refine RQ.pv rfl (PV.mul rfl rfl rfl (by omega)) (RQ.pv rfl (PV.mvI (.inl rfl) rfl) (RQ.pv rfl (PV.loadW rfl Ag101 rfl rfl) ?_))
   refine RQ.callF (vs := [_]) rfl rfl En145 rfl (area_s hvi ⟨rfl, rfl, rfl⟩) ?_
   refine RQ.pv rfl (PV.mul rfl rfl rfl (by omega)) (RQ.pv rfl (PV.lss rfl rfl rfl) (RQ.nil ?_))
   refine WP.cond rfl (fun h6 => ?_) fun h6 => ?_
   ·have h6 : 100 * covB (bits xs) (gd (windL w) i) < p * areaR (gd (windL w) i) := by have := odt h6; rw [Int.mul_comm] at this; exact this
    refine WP.region (RG.p (PV.mvP (.inl rfl) rfl) (RG.p (PV.loadW rfl Ag101 rfl rfl) ?_))
    refine RG.callF (vs := [(.pointer (some ⟨b24, 0, none⟩)), _]) rfl rfl En68 rfl (CallT.exB (put_s (by assumption) (fun bs' hb' hg' => ?_)))
    refine RG.nil (WP.region (RG.p (PV.add rfl rfl rfl (by omega)) (RG.ml rfl (RG.nil ?_))))
    exact ⟨rfl, i + 1, bs', ⟨by omega, hb', fun y x hy hx => by rw [hg' y x hy hx, Bool.or_eq_true, hE.2 y x hy hx, hnx]; simp [h6]⟩, ⟨rfl, trivial⟩, ⟨rfl, rfl, rfl, rfl, rfl, trivial⟩, Cv.p, by omega⟩
   ·have h6 : ¬ 100 * covB (bits xs) (gd (windL w) i) < p * areaR (gd (windL w) i) := by have := odf h6; rw [Int.mul_comm] at this; exact this
    refine WP.skip (WP.region (RG.p (PV.add rfl rfl rfl (by omega)) (RG.ml rfl (RG.nil ?_))))
    exact ⟨rfl, i + 1, E, ⟨by omega, hE.congr fun y x _ _ => by rw [hnx]; simp [h6]⟩, ⟨rfl, trivial⟩, ⟨rfl, rfl, rfl, rfl, rfl, trivial⟩, Cv.p, by omega⟩
  ·have h5 := odf h5
   rw [List.take_of_length_le (by omega)] at hE
   have hEc : E = celL (Bare (bits xs) (windL w) p) := celL_eq hE.1 hE.2
   have e : densL xs w p = opR (fun p q => p && !q) (canon E) xs := by
    rw [densL, if_pos (by simp [h4.1, h4.2.1, h4.2.2]), opR, isReg_canon hEl, hreg, bits_canon hEl, hEc]; rfl
   rw [e] at k
   refine WP.exit (WP.sr (RG.p (PV.mvP (.inl rfl) rfl) ?_))
   refine RG.callF (vs := [(.pointer (some ⟨b24, 0, none⟩))]) rfl rfl En69 rfl (CallT.exB (region_s hEl (fun v46 => ?_)))
   refine RG.p (PV.move (v := v) rfl rfl) ?_
   refine RG.callF (vs := [v46, v]) rfl rfl En146 rfl (diff_s Rs.o (Rs.up h1) (fun v48 => ?_))
   refine RG.p (PV.asg (v := v48) rfl rfl) (RG.nil ?_)
   exact WP.ret ⟨_, _, rv rfl rfl, Cv.p, k v48⟩
theorem filtS {α : Type} [Inhabited α] (p : α -> Bool) {xs : List α} {i : Nat} (h : i < xs.length) : (xs.take (i + 1)).filter p = (xs.take i).filter p ++ (if p (gd xs i) = true then [gd xs i] else []) := filt_succ p h
theorem er_filter {p : List Rect -> Bool} : ∀ zs : List (Sl Rect), er (zs.filter fun z => p z.xs) = (er zs).filter p
 | [] => rfl
 | z :: zs => by
  have ih := er_filter (p := p) zs
  simp only [er] at ih ⊢
  cases h : p z.xs <;> simp [h, ih]
theorem choose_i {v fv : Value} {xs : List Rect} {p : List Rect -> Bool} (h1 : Rs G L rectT v xs) (hF : ∀ M, Cv M L -> ∀ z : Sl Rect, Rs G M rectT z.v z.xs -> validRs z.xs = true -> CB Tryz.prog G M fv [z.v] (.bool (p z.xs)))
  (k : ∀ v', R v' G (osl 101 rectT v' (canon (bits ((partsL (bits xs)).filter p).flatten)) :: L)) : CallT Tryz.prog 197 #[v, fv] G L R := by
 refine CallT.enter (args := _) Tryz.func197 rfl rfl (by kernel_rfl) rfl ?_
 refine WP.sr (RG.p (PV.asg rfl rfl) (RG.nil (WP.sr ?_)))
 refine RG.ot rfl (OT.bslice (F := (slT (α := Rect))) (els := []) rfl El35 rfl (by decide) rfl (by decide) trivial fun v8 => ?_)
 refine RG.p (PV.asg (v := v8) rfl rfl) (RG.nil (WP.seq (WP.sr (RG.p (PV.move (v := v) rfl rfl) ?_))))
 refine RG.callF (vs := [v]) rfl rfl En74 rfl (components_s (Rs.up h1) (fun v10 zsv10 hev10 => ?_))
 refine RG.p (PV.len (v := v10) rfl Tryz.underlying35 rfl SlF.o) (RG.ml rfl (RG.nil (WP.block ?_)))
 have hzl : zsv10.length <= 6400 := by have := congrArg List.length hev10; rw [er_len] at this; rw [this, partsL, List.length_map]; exact comps_len _
 refine WP.loop3 [1, 10, 11] (fun (i : Nat) (out : List (Sl Rect)) (q : Value) => i <= zsv10.length ∧ out = (zsv10.take i).filter (fun z => p z.xs)) (fun (i : Nat) (out : List (Sl Rect)) (q : Value) => [(12, vi i), (5, q)]) (fun (i : Nat) (out : List (Sl Rect)) (q : Value) => osl 50 slT q out :: osl 50 slT v10 zsv10 :: bagS 101 rectT zsv10 :: L) (fun (i : Nat) (out : List (Sl Rect)) (q : Value) => zsv10.length - i) 0 [] v8 ⟨by omega, rfl⟩ ⟨rfl, rfl, trivial⟩ Cv.p ?_
 rintro i out q τ ⟨hi, ho⟩
 refine WP.sr (RG.p (PV.lss rfl rfl rfl) (RG.nil (WP.seq ?_)))
 have hol : out.length <= 6400 := by have := List.length_filter_le (fun z : Sl Rect => p z.xs) (zsv10.take i); rw [<- ho, List.length_take] at this; omega
 refine WP.cond rfl (fun h2 => ?_) fun h2 => ?_
 ·have h2 := odt h2
  have h20 : i < zsv10.length := by omega
  have hz : Rs G [bagS 101 rectT zsv10] rectT (gd zsv10 i).v (gd zsv10 i).xs := Rs.inBag i h20
  have hzv : validRs (gd zsv10 i).xs = true := by
   rw [<- er_gd, hev10, partsL]
   have hc : i < (comps (bits xs)).length := by have := congrArg List.length hev10; rw [er_len, partsL, List.length_map] at this; omega
   rw [gd_eq (by rw [List.length_map]; exact hc), List.getElem_map]
   exact isReg_valid (isReg_canon (comps_mem (List.getElem_mem hc)))
  have hf := filtS (fun z : Sl Rect => p z.xs) h20
  refine WP.skip (WP.seq (WP.block (WP.sr (RG.p (PV.idxS (v := v10) rfl Is35 rfl SlF.o rfl rfl (by omega)) (RG.p (PV.loadE1 rfl Sc50 rfl rfl (El.o (getG (by omega))) rfl) (RG.p (PV.asg rfl rfl) (RG.nil (WP.sr (RG.p (PV.move (v := fv) rfl rfl) (RG.p (PV.move rfl rfl) ?_))))))))))
  refine RG.callB (vs := [_]) rfl rfl rfl rfl (CB.up (hF (bagS 101 rectT zsv10 :: L) Cv.p (gd zsv10 i) hz.up hzv)) ?_
  refine RG.nil ?_
  refine WP.cond rfl (fun h3 => ?_) fun h3 => ?_
  ·rw [if_pos h3, <- ho] at hf
   refine WP.region (RG.p (PV.move (v := q) rfl rfl) (RG.p (PV.move rfl rfl) ?_))
   refine RG.ot rfl (OT.bslice (F := (slT (α := Rect))) (els := [gd zsv10 i]) rfl El35 rfl (by decide) rfl (by decide) ⟨rfl, (Cl.s (SlF.r hz)), trivial⟩ fun v21 => ?_)
   refine RG.ot rfl (OT.append (v := q) (u := v21) (F := (slT (α := Rect))) rfl El35 rfl (by decide) rfl rfl Rs.o (OneL.one (OneC.sl (SlF.r hz) OneC.nil)) rfl (by first | omega | (simp <;> omega)) fun v22 => ?_)
   refine RG.p (PV.asg (v := v22) rfl rfl) (RG.nil (WP.region (RG.p (PV.add rfl rfl rfl (by omega)) (RG.ml rfl (RG.nil ?_)))))
   exact ⟨rfl, i + 1, (out ++ [gd zsv10 i]), v22, ⟨by omega, hf.symm⟩, ⟨rfl, rfl, trivial⟩, ⟨rfl, rfl, rfl, trivial⟩, Cv.p, by omega⟩
  ·rw [if_neg (by rw [h3]; decide), <- ho, List.append_nil] at hf
   refine WP.skip (WP.region (RG.p (PV.add rfl rfl rfl (by omega)) (RG.ml rfl (RG.nil ?_))))
   exact ⟨rfl, i + 1, out, q, ⟨by omega, hf.symm⟩, ⟨rfl, rfl, trivial⟩, ⟨rfl, rfl, rfl, trivial⟩, Cv.p, by omega⟩
 ·have h2 := odf h2
  rw [List.take_of_length_le (by omega)] at ho
  have hE : RsE G [bagS 101 rectT zsv10] rectT out := fun i hi => by
   have hm : gd out i ∈ zsv10 := by have := gd_mem hi; rw [ho] at this; rw [ho]; exact (List.mem_filter.1 this).1
   obtain ⟨j, hj, e⟩ := List.getElem_of_mem hm
   have := Rs.inBag (G := G) (L := [bagS 101 rectT zsv10]) (L' := []) (e := 101) (F := rectT) (xs := zsv10) j hj
   rw [gd_eq hj, e] at this; exact this
  refine WP.exit (WP.sr (RG.p (PV.move (v := q) rfl rfl) ?_))
  refine RG.callF (vs := [q]) rfl rfl En138 rfl (unionAll_s (xs := out) Rs.o hE.up (fun v25 => ?_))
  refine RG.p (PV.asg (v := v25) rfl rfl) (RG.nil ?_)
  refine WP.ret ?_
  rw [<- hev10, <- er_filter, <- ho] at k
  exact ⟨_, _, rv rfl rfl, Cv.p, k v25⟩
theorem sel1_i {v u : Value} {xs : List Rect} {b : Nat} {w : Int} (hz : Rs G L rectT v xs) (hv : validRs xs = true) (hb : Rd G L b 0 (vi w)) (k : R (.bool (decide (areaS xs < w))) G L) : CallT Tryz.prog 198 #[v, .pointer (some ⟨b, 0, none⟩)] G L R := by
 refine CallT.enter (args := _) Tryz.func198 rfl rfl (by kernel_rfl) rfl ?_
 refine WP.sr (RG.br rfl (RG.nil (WP.seq ?_)))
 refine WP.regionQ (by kernel_rfl) (by kernel_rfl) ?_
 refine RQ.pv rfl (PV.move (v := v) rfl rfl) ?_
 refine RQ.callF (vs := [v]) rfl rfl En199 rfl (regionArea_s hz hv ⟨rfl, rfl, rfl⟩) ?_
 refine RQ.pv rfl (PV.load1 rfl Sc2 rfl (Rd.up hb)) (RQ.pv rfl (PV.lss rfl rfl rfl) (RQ.pv rfl (PV.mvB (.inr rfl) rfl) (RQ.nil ?_)))
 exact WP.ret ⟨_, _, rv rfl rfl, Cv.p, k⟩
theorem small_i {v : Value} {xs : List Rect} {w : Int} (h1 : Rs G L rectT v xs) (k : ∀ v', R v' G (osl 101 rectT v' (if isReg xs = true then canon (bits ((partsL (bits xs)).filter fun ys => decide (areaS ys < w)).flatten) else []) :: L)) : CallT Tryz.prog 142 #[v, vi w] G L R := by
 refine CallT.enter (args := _) Tryz.func142 rfl rfl (by kernel_rfl) rfl ?_
 refine WP.sr ?_
 refine RG.ot rfl (OT.box (cs := [vi w]) rfl rfl rfl fun b3 => ?_)
 refine RG.p (PV.asg rfl rfl) (RG.nil (WP.seq (WP.sr (RG.p (PV.move (v := v) rfl rfl) ?_))))
 refine RG.callF (vs := [v]) rfl rfl En72 rfl (isRegion_s (Rs.up h1) ?_)
 refine RG.p (PV.not rfl rfl) (RG.nil ?_)
 refine WP.cond rfl (fun h2 => ?_) fun h2 => ?_
 ·have h3 : ¬ isReg xs = true := by simpa using h2
  rw [if_neg h3] at k
  refine WP.sr (RG.p (PV.asg rfl rfl) (RG.nil ?_))
  exact WP.ret ⟨_, _, rv rfl rfl, (Cv.p (C := L)).trans Cv.nilS, k (.slice none 0 0)⟩
 ·have h3 : isReg xs = true := by simpa using h2
  rw [if_pos h3] at k
  refine WP.skip (WP.sr (RG.p (PV.move (v := v) rfl rfl) (RG.p (PV.mkf1 rfl rfl) ?_)))
  refine RG.callF (vs := [v, _]) rfl rfl En197 rfl (choose_i (p := fun ys => decide (areaS ys < w)) (Rs.up h1) (fun M c z hz hv => CB.mk1 En198 fun L' R e k => sel1_i (u := .nilIface) (hz.cv e) hv (Rd.cv (Rd.blk rfl) (e.trans c)) k) (fun v10 => ?_))
  refine RG.p (PV.asg (v := v10) rfl rfl) (RG.nil ?_)
  exact WP.ret ⟨_, _, rv rfl rfl, Cv.p, k v10⟩
theorem small_eq {S : List Bool} {w : Int} : bits ((partsL S).filter fun ys => decide (areaS ys < w)).flatten = celL (Small S w) := celL_eq (bits_length _) fun y x hy hx => by
 rw [gb_bits_iff hy hx]
 simp only [List.mem_flatten, List.mem_filter, decide_eq_true_eq, partsL, List.mem_map]
 constructor
 ·rintro ⟨r, ⟨ys, ⟨⟨c, hc, rfl⟩, ha⟩, hr⟩, hin⟩
  have hcl := comps_mem hc
  refine ⟨c, hc, by rw [<- cnt_canon hcl]; exact ha, ?_⟩
  rw [<- bits_canon hcl, gb_bits_iff hy hx]; exact ⟨r, hr, hin⟩
 ·rintro ⟨c, hc, ha, hg⟩
  have hcl := comps_mem hc
  rw [<- bits_canon hcl, gb_bits_iff hy hx] at hg
  obtain ⟨r, hr, hin⟩ := hg
  exact ⟨r, ⟨canon c, ⟨⟨c, hc, rfl⟩, by rw [cnt_canon hcl]; exact ha⟩, hr⟩, hin⟩
theorem markArea_i {v : Value} {xs : List Rect} {w : Int} (h1 : Rs G L rectT v xs) (k : ∀ v', R v' G (osl 101 rectT v' (areaL xs w) :: L)) : CallT Tryz.prog 91 #[v, vi w] G L R := by
 refine CallT.enter (args := _) Tryz.func91 rfl rfl (by kernel_rfl) rfl ?_
 refine WP.sr (RG.p (PV.asg rfl rfl) (RG.nil (WP.seq (WP.sr (RG.ml rfl ?_)))))
 refine RG.callF (vs := [_, _, _]) rfl rfl En56 rfl (within_s ?_)
 refine RG.p (PV.not rfl rfl) (RG.nil ?_)
 refine WP.cond rfl (fun h2 => ?_) fun h2 => ?_
 ·have e : areaL xs w = [] := by rw [areaL, if_neg]; intro h4; cases g1 : isReg xs <;> cases g3 : within w 1 6400 <;> simp_all
  rw [e] at k
  refine WP.sr (RG.p (PV.asg rfl rfl) (RG.nil ?_))
  exact WP.ret ⟨_, _, rv rfl rfl, Cv.nilS, k _⟩
 ·have h3 : within w 1 6400 = true := by simpa using h2
  have e : areaL xs w = if isReg xs = true then canon (bits ((partsL (bits xs)).filter fun ys => decide (areaS ys < w)).flatten) else [] := by
   rw [areaL, h3, Bool.and_true, small_eq]
  rw [e] at k
  refine WP.skip (WP.sr (RG.p (PV.move (v := v) rfl rfl) (RG.ml rfl ?_)))
  refine RG.callF (vs := [v, _]) rfl rfl En142 rfl (small_i (Rs.up h1) (fun v10 => ?_))
  refine RG.p (PV.asg (v := v10) rfl rfl) (RG.nil ?_)
  exact WP.ret ⟨_, _, rv rfl rfl, Cv.p, k v10⟩
noncomputable def rmL (l : List (List Rect)) (q : Rule) : List Rect :=
  if q.kind = 0 then widthL (gd l q.layer.toNat) q.value else if q.kind = 1 then spaceL (gd l q.layer.toNat) q.value else if q.kind = 2 then betwL (gd l q.layer.toNat) (gd l q.other.toNat) q.value
  else if q.kind = 3 then enclL (gd l q.layer.toNat) (gd l q.other.toNat) q.value else if q.kind = 4 then areaL (gd l q.layer.toNat) q.value else densL (gd l q.layer.toNat) q.value q.percent
noncomputable def rmE (l : List (List Rect)) (q : Rule) : List Rect := if (isLay l && validRule q) = true then rmL l q else []
theorem valid_lay {q : Rule} (h : validRule q = true) : (0 <= q.layer ∧ q.layer <= 7) ∧ 0 <= q.other ∧ q.other <= 7 := by
 simp only [validRule, okOther, Bool.and_eq_true] at h
 have h1 := h.1.1.1.2; have h2 := h.1.1.2
 simp only [within, Bool.and_eq_true, decide_eq_true_eq] at h1
 refine ⟨h1, ?_⟩
 cases hp : paired q.kind
 ·rw [hp, cond_false] at h2; have := odt h2; omega
 ·rw [hp, cond_true] at h2; simp only [within, Bool.and_eq_true, decide_eq_true_eq] at h2; exact h2.1
theorem rule_s {v : Value} {ys : List (Sl Rect)} {q : Rule} (h1 : Rs G L slT v ys) (hd : RsE G L rectT ys) (k : ∀ v', R v' G (osl 101 rectT v' (rmE (er ys) q) :: L)) : CallT Tryz.prog 111 #[v, vT ruleT q] G L R := by
 refine CallT.enter (args := _) Tryz.func111 rfl rfl (by kernel_rfl) rfl ?_
 refine WP.sr ?_
 refine RG.ot rfl (OT.box (cs := ruleT.enc q) rfl rfl rfl fun b3 => ?_)
 refine RG.p (PV.asg rfl rfl) (RG.nil (WP.seq (WP.sr (RG.p (PV.move (v := v) rfl rfl) ?_))))
 refine RG.callF (vs := [v]) rfl rfl En169 rfl (l19Layout_s (Rs.up h1) hd.up ?_)
 refine RG.p (PV.not rfl rfl) (RG.bl rfl ?_)
 refine RG.g rfl (fun hp => (PV.loadW rfl Ag42 rfl rfl)) ?_
 refine RG.gsC rfl rfl rfl rfl En41 (fun hp => ⟨_, (acons (gt' hp) anil), validRule_s ⟨rfl, rfl, rfl⟩⟩) ?_
 refine RG.g rfl (fun hp => (PV.not rfl (gt' hp))) ?_
 refine RG.p (PV.pickO rfl rfl rfl (fun hq => gt' (geqF hq))) (RG.nil ?_)
 refine WP.cond rfl (fun h2 => ?_) fun h2 => ?_
 ·have e : rmE (er ys) q = [] := by rw [rmE, if_neg]; intro h3; cases g1 : isLay (er ys) <;> cases g2 : validRule q <;> simp_all
  rw [e] at k
  refine WP.sr ?_
  refine RG.ot rfl (OT.bslice (F := rectT) (els := []) rfl El50 rfl (by decide) rfl (by decide) trivial fun v14 => ?_)
  refine RG.p (PV.asg (v := v14) rfl rfl) (RG.nil ?_)
  exact WP.ret ⟨_, _, rv rfl rfl, Cv.p, k v14⟩
 ·have h3 : isLay (er ys) = true ∧ validRule q = true := by cases g1 : isLay (er ys) <;> cases g2 : validRule q <;> simp_all
  have hl8 : ys.length = 8 := by have := isLay_len h3.1; rwa [er_len] at this
  obtain ⟨hlr, hor⟩ := valid_lay h3.2
  rw [rmE, if_pos (by rw [h3.1, h3.2]; rfl), rmL, er_gd, er_gd] at k
  refine WP.skip (WP.sr (RG.p (PV.move (v := v) rfl rfl) (RG.p (PV.field rfl Fo42_1 rfl) (RG.p (PV.load1 rfl Sc2 rfl (Rd.blk rfl)) (RG.p (PV.idxS (j := q.layer.toNat) (v := v) rfl Is35 rfl (SlF.r h1) rfl (by omega) (by omega)) (RG.p (PV.loadE1 rfl Sc50 rfl rfl (El.r h1 (getG (by omega))) rfl) (RG.p (PV.asg rfl rfl) (RG.nil (WP.seq (WP.sr (RG.p (PV.field rfl Fo42_0 rfl) ?_)))))))))))
  refine RG.p (PV.load1 rfl Sc2 rfl (Rd.blk rfl)) (RG.nil (WP.block (WP.sr (RG.p (PV.eql rfl rfl rfl) (RG.br rfl (RG.nil ?_))))))
  refine WP.cond rfl (fun h4 => ?_) fun h4 => ?_
  ·rw [if_pos (by simpa using h4)] at k
   refine WP.sr (RG.p (PV.move rfl rfl) (RG.p (PV.field rfl Fo42_3 rfl) (RG.p (PV.load1 rfl Sc2 rfl (Rd.blk rfl)) ?_)))
   refine RG.callF (vs := [_, _]) rfl rfl En170 rfl (markWidth_s (hd q.layer.toNat (by omega)).up (fun v27 => ?_))
   refine RG.p (PV.asg (v := v27) rfl rfl) (RG.nil ?_)
   exact WP.ret ⟨_, _, rv rfl rfl, Cv.p, k v27⟩
  ·rw [if_neg (by simpa using h4)] at k
   refine WP.sr (RG.p (PV.eql rfl rfl rfl) (RG.br rfl (RG.nil ?_)))
   refine WP.cond rfl (fun h5 => ?_) fun h5 => ?_
   ·rw [if_pos (by simpa using h5)] at k
    refine WP.sr (RG.p (PV.move rfl rfl) (RG.p (PV.field rfl Fo42_3 rfl) (RG.p (PV.load1 rfl Sc2 rfl (Rd.blk rfl)) ?_)))
    refine RG.callF (vs := [_, _]) rfl rfl En171 rfl (markSpacing_s (hd q.layer.toNat (by omega)).up (fun v33 => ?_))
    refine RG.p (PV.asg (v := v33) rfl rfl) (RG.nil ?_)
    exact WP.ret ⟨_, _, rv rfl rfl, Cv.p, k v33⟩
   ·rw [if_neg (by simpa using h5)] at k
    refine WP.sr (RG.p (PV.eql rfl rfl rfl) (RG.br rfl (RG.nil ?_)))
    refine WP.cond rfl (fun h6 => ?_) fun h6 => ?_
    ·rw [if_pos (by simpa using h6)] at k
     refine WP.seq ?_
     refine WP.regionH0 (.q 0 (.q 1 (.q 2 (.q 3 (.q 4 (.q 5 (.q 6 (.q 7 (.l 8 (.q 9 Sch.nil)))))))))) (by kernel_rfl) (by kernel_rfl) (by kernel_rfl) rfl ?_
     refine RH.w rfl rfl (PV.move rfl rfl) (RH.w rfl rfl (PV.move (v := v) rfl rfl) (RH.w rfl rfl (PV.field rfl Fo42_2 rfl) (RH.w rfl rfl (PV.load1 rfl Sc2 rfl (Rd.blk rfl)) (RH.w rfl rfl (PV.idxS (j := q.other.toNat) (v := v) rfl Is35 rfl (SlF.r h1) rfl (by omega) (by omega)) (RH.w rfl rfl (PV.loadE1 rfl Sc50 rfl rfl (El.r h1 (getG (by omega))) rfl) (RH.w rfl rfl (PV.field rfl Fo42_3 rfl) (RH.w rfl rfl (PV.load1 rfl Sc2 rfl (Rd.blk rfl)) ?_)))))))
     refine RH.ot rfl rfl (OT.callF (vs := [_, _, _]) rfl En172 rfl (markBetween_s (hd q.layer.toNat (by omega)).up (hd q.other.toNat (by omega)).up (fun v44 => (kp ?_))))
     refine RH.w rfl rfl (PV.asg (v := v44) rfl rfl) (RH.nil ?_)
     exact WP.ret ⟨_, _, rv rfl rfl, Cv.p, k v44⟩
    ·rw [if_neg (by simpa using h6)] at k
     refine WP.sr (RG.p (PV.eql rfl rfl rfl) (RG.br rfl (RG.nil ?_)))
     refine WP.cond rfl (fun h8 => ?_) fun h8 => ?_
     ·rw [if_pos (by simpa using h8)] at k
      refine WP.seq ?_
      refine WP.regionH0 (.q 0 (.q 1 (.q 2 (.q 3 (.q 4 (.q 5 (.q 6 (.q 7 (.l 8 (.q 9 Sch.nil)))))))))) (by kernel_rfl) (by kernel_rfl) (by kernel_rfl) rfl ?_
      refine RH.w rfl rfl (PV.move rfl rfl) (RH.w rfl rfl (PV.move (v := v) rfl rfl) (RH.w rfl rfl (PV.field rfl Fo42_2 rfl) (RH.w rfl rfl (PV.load1 rfl Sc2 rfl (Rd.blk rfl)) (RH.w rfl rfl (PV.idxS (j := q.other.toNat) (v := v) rfl Is35 rfl (SlF.r h1) rfl (by omega) (by omega)) (RH.w rfl rfl (PV.loadE1 rfl Sc50 rfl rfl (El.r h1 (getG (by omega))) rfl) (RH.w rfl rfl (PV.field rfl Fo42_3 rfl) (RH.w rfl rfl (PV.load1 rfl Sc2 rfl (Rd.blk rfl)) ?_)))))))
      refine RH.ot rfl rfl (OT.callF (vs := [_, _, _]) rfl En173 rfl (markEncl_s (hd q.layer.toNat (by omega)).up (hd q.other.toNat (by omega)).up (fun v55 => (kp ?_))))
      refine RH.w rfl rfl (PV.asg (v := v55) rfl rfl) (RH.nil ?_)
      exact WP.ret ⟨_, _, rv rfl rfl, Cv.p, k v55⟩
     ·rw [if_neg (by simpa using h8)] at k
      refine WP.sr (RG.p (PV.eql rfl rfl rfl) (RG.br rfl (RG.nil ?_)))
      refine WP.cond rfl (fun h9 => ?_) fun h9 => ?_
      ·rw [if_pos (by simpa using h9)] at k
       refine WP.sr (RG.p (PV.move rfl rfl) (RG.p (PV.field rfl Fo42_3 rfl) (RG.p (PV.load1 rfl Sc2 rfl (Rd.blk rfl)) ?_)))
       refine RG.callF (vs := [_, _]) rfl rfl En174 rfl (markArea_s (hd q.layer.toNat (by omega)).up (fun v61 => ?_))
       refine RG.p (PV.asg (v := v61) rfl rfl) (RG.nil ?_)
       exact WP.ret ⟨_, _, rv rfl rfl, Cv.p, k v61⟩
      ·rw [if_neg (by simpa using h9)] at k
       refine WP.skip (WP.sr (RG.p (PV.move rfl rfl) (RG.p (PV.field rfl Fo42_3 rfl) (RG.p (PV.load1 rfl Sc2 rfl (Rd.blk rfl)) (RG.p (PV.field rfl Fo42_4 rfl) (RG.p (PV.load1 rfl Sc2 rfl (Rd.blk rfl)) ?_))))))
       refine RG.callF (vs := [_, _, _]) rfl rfl En175 rfl (markDens_s (hd q.layer.toNat (by omega)).up (fun v67 => ?_))
       refine RG.p (PV.asg (v := v67) rfl rfl) (RG.nil ?_)
       exact WP.ret ⟨_, _, rv rfl rfl, Cv.p, k v67⟩
theorem rule_i {v : Value} {ys : List (Sl Rect)} {q : Rule} (h1 : Rs G L slT v ys) (hd : RsE G L rectT ys) (hl : isLay (er ys) = true) (hr : validRule q = true) (k : ∀ v', R v' G (osl 101 rectT v' (rmL (er ys) q) :: L)) : CallT Tryz.prog 48 #[v, vT ruleT q] G L R := by
 have hl8 : ys.length = 8 := by have := isLay_len hl; rwa [er_len] at this
 obtain ⟨hlr, hor⟩ := valid_lay hr
 rw [rmL, er_gd, er_gd] at k
 refine CallT.enter (args := _) Tryz.func48 rfl rfl (by kernel_rfl) rfl ?_
 refine WP.sr ?_
 refine RG.ot rfl (OT.box (cs := ruleT.enc q) rfl rfl rfl fun b3 => ?_)
 refine RG.p (PV.asg rfl rfl) (RG.nil (WP.seq ?_))
 refine WP.regionQ (by kernel_rfl) (by kernel_rfl) ?_
 refine RQ.pv rfl (PV.move (v := v) rfl rfl) (RQ.pv rfl (PV.field rfl Fo42_1 rfl) (RQ.pv rfl (PV.load1 rfl Sc2 rfl (Rd.blk rfl)) (RQ.pv rfl (PV.idxS (j := q.layer.toNat) (v := v) rfl Is35 rfl (SlF.r h1) rfl (by omega) (by omega)) (RQ.pv rfl (PV.loadE1 rfl Sc50 rfl rfl (El.r h1 (getG (by omega))) rfl) (RQ.pv rfl (PV.move (v := v) rfl rfl) (RQ.pv rfl (PV.field rfl Fo42_2 rfl) (RQ.pv rfl (PV.load1 rfl Sc2 rfl (Rd.blk rfl)) (RQ.pv rfl (PV.idxS (j := q.other.toNat) (v := v) rfl Is35 rfl (SlF.r h1) rfl (by omega) (by omega)) (RQ.pv rfl (PV.loadE1 rfl Sc50 rfl rfl (El.r h1 (getG (by omega))) rfl) (RQ.pv rfl (PV.asg rfl rfl) (RQ.pv rfl (PV.asg rfl rfl) (RQ.nil (WP.seq ?_)))))))))))))
 refine WP.sr (RG.p (PV.field rfl Fo42_0 rfl) (RG.p (PV.load1 rfl Sc2 rfl (Rd.blk rfl)) (RG.nil (WP.block (WP.sr (RG.p (PV.eql rfl rfl rfl) (RG.br rfl (RG.nil ?_))))))))
 refine WP.cond rfl (fun h4 => ?_) fun h4 => ?_
 ·rw [if_pos (by simpa using h4)] at k
  refine WP.sr (RG.p (PV.move rfl rfl) (RG.p (PV.field rfl Fo42_3 rfl) (RG.p (PV.load1 rfl Sc2 rfl (Rd.blk rfl)) ?_)))
  refine RG.callF (vs := [_, _]) rfl rfl En87 rfl (markWidth_i (hd q.layer.toNat (by omega)).up (fun v24 => ?_))
  refine RG.p (PV.asg (v := v24) rfl rfl) (RG.nil ?_)
  exact WP.ret ⟨_, _, rv rfl rfl, Cv.p, k v24⟩
 ·rw [if_neg (by simpa using h4)] at k
  refine WP.sr (RG.p (PV.eql rfl rfl rfl) (RG.br rfl (RG.nil ?_)))
  refine WP.cond rfl (fun h5 => ?_) fun h5 => ?_
  ·rw [if_pos (by simpa using h5)] at k
   refine WP.sr (RG.p (PV.move rfl rfl) (RG.p (PV.field rfl Fo42_3 rfl) (RG.p (PV.load1 rfl Sc2 rfl (Rd.blk rfl)) ?_)))
   refine RG.callF (vs := [_, _]) rfl rfl En88 rfl (markSpacing_i (hd q.layer.toNat (by omega)).up (fun v30 => ?_))
   refine RG.p (PV.asg (v := v30) rfl rfl) (RG.nil ?_)
   exact WP.ret ⟨_, _, rv rfl rfl, Cv.p, k v30⟩
  ·rw [if_neg (by simpa using h5)] at k
   refine WP.sr (RG.p (PV.eql rfl rfl rfl) (RG.br rfl (RG.nil ?_)))
   refine WP.cond rfl (fun h6 => ?_) fun h6 => ?_
   ·rw [if_pos (by simpa using h6)] at k
    refine WP.sr (RG.p (PV.move rfl rfl) (RG.p (PV.move rfl rfl) (RG.p (PV.field rfl Fo42_3 rfl) (RG.p (PV.load1 rfl Sc2 rfl (Rd.blk rfl)) ?_))))
    refine RG.callF (vs := [_, _, _]) rfl rfl En89 rfl (markBetween_i (hd q.layer.toNat (by omega)).up (hd q.other.toNat (by omega)).up (fun v37 => ?_))
    refine RG.p (PV.asg (v := v37) rfl rfl) (RG.nil ?_)
    exact WP.ret ⟨_, _, rv rfl rfl, Cv.p, k v37⟩
   ·rw [if_neg (by simpa using h6)] at k
    refine WP.sr (RG.p (PV.eql rfl rfl rfl) (RG.br rfl (RG.nil ?_)))
    refine WP.cond rfl (fun h8 => ?_) fun h8 => ?_
    ·rw [if_pos (by simpa using h8)] at k
     refine WP.sr (RG.p (PV.move rfl rfl) (RG.p (PV.move rfl rfl) (RG.p (PV.field rfl Fo42_3 rfl) (RG.p (PV.load1 rfl Sc2 rfl (Rd.blk rfl)) ?_))))
     refine RG.callF (vs := [_, _, _]) rfl rfl En90 rfl (markEncl_i (hd q.layer.toNat (by omega)).up (hd q.other.toNat (by omega)).up (fun v44 => ?_))
     refine RG.p (PV.asg (v := v44) rfl rfl) (RG.nil ?_)
     exact WP.ret ⟨_, _, rv rfl rfl, Cv.p, k v44⟩
    ·rw [if_neg (by simpa using h8)] at k
     refine WP.sr (RG.p (PV.eql rfl rfl rfl) (RG.br rfl (RG.nil ?_)))
     refine WP.cond rfl (fun h9 => ?_) fun h9 => ?_
     ·rw [if_pos (by simpa using h9)] at k
      refine WP.sr (RG.p (PV.move rfl rfl) (RG.p (PV.field rfl Fo42_3 rfl) (RG.p (PV.load1 rfl Sc2 rfl (Rd.blk rfl)) ?_)))
      refine RG.callF (vs := [_, _]) rfl rfl En91 rfl (markArea_i (hd q.layer.toNat (by omega)).up (fun v50 => ?_))
      refine RG.p (PV.asg (v := v50) rfl rfl) (RG.nil ?_)
      exact WP.ret ⟨_, _, rv rfl rfl, Cv.p, k v50⟩
     ·rw [if_neg (by simpa using h9)] at k
      refine WP.skip (WP.sr (RG.p (PV.move rfl rfl) (RG.p (PV.field rfl Fo42_3 rfl) (RG.p (PV.load1 rfl Sc2 rfl (Rd.blk rfl)) (RG.p (PV.field rfl Fo42_4 rfl) (RG.p (PV.load1 rfl Sc2 rfl (Rd.blk rfl)) ?_))))))
      refine RG.callF (vs := [_, _, _]) rfl rfl En92 rfl (markDens_i (hd q.layer.toNat (by omega)).up (fun v56 => ?_))
      refine RG.p (PV.asg (v := v56) rfl rfl) (RG.nil ?_)
      exact WP.ret ⟨_, _, rv rfl rfl, Cv.p, k v56⟩
def Agr (A B : List Bool) (w : Int) (y x : Nat) : Prop := ∀ y' x' : Nat, y' < 80 -> x' < 80 -> ((y : Int) - w <= y' ∧ (y' : Int) <= y + w) -> ((x : Int) - w <= x' ∧ (x' : Int) <= x + w) -> gb A y' x' = gb B y' x'
theorem widthL_reg (xs : List Rect) (w : Int) : isReg (widthL xs w) = true := by
 unfold widthL; split
 ·exact isReg_canon (celL_len _)
 ·exact isReg_nil
theorem spaceL_reg (xs : List Rect) (w : Int) : isReg (spaceL xs w) = true := by
 unfold spaceL; split
 ·exact isReg_canon (celL_len _)
 ·exact isReg_nil
theorem betwL_reg (xs ys : List Rect) (w : Int) : isReg (betwL xs ys w) = true := by
 unfold betwL; split
 ·exact isReg_canon (celL_len _)
 ·exact isReg_nil
theorem enclL_reg (xs ys : List Rect) (w : Int) : isReg (enclL xs ys w) = true := by
 unfold enclL; split
 ·exact isReg_canon (zipB_len (growB_len _ _) (bits_length _))
 ·exact isReg_nil
theorem areaL_reg (xs : List Rect) (w : Int) : isReg (areaL xs w) = true := by
 unfold areaL; split
 ·exact isReg_canon (celL_len _)
 ·exact isReg_nil
theorem densL_reg (xs : List Rect) (w p : Int) : isReg (densL xs w p) = true := by
 unfold densL; split
 ·exact isReg_canon (zipB_len (celL_len _) (bits_length _))
 ·exact isReg_nil
theorem rmL_reg (l : List (List Rect)) (q : Rule) : isReg (rmL l q) = true := by
 unfold rmL
 split
 ·exact widthL_reg _ _
 ·split
  ·exact spaceL_reg _ _
  ·split
   ·exact betwL_reg _ _ _
   ·split
    ·exact enclL_reg _ _ _
    ·split
     ·exact areaL_reg _ _
     ·exact densL_reg _ _ _
theorem rmE_reg (l : List (List Rect)) (q : Rule) : isReg (rmE l q) = true := by
 unfold rmE; split
 ·exact rmL_reg _ _
 ·exact isReg_nil
set_option maxHeartbeats 4000000
theorem dDk_s {b : Nat} {cv : Value} {bs : List UInt8} {l : Lib} {p : Pl} (hcode : SL G byteT cv bs) (hp : OkP p) (hL : RLib G L l.cells.v l.cells.xs) (hx : 1 <= l.cells.xs.length) (hlb : -2 <= lay0 (erCls l.cells.xs) ∧ lay0 (erCls l.cells.xs) <= 9) (k : ∀ v' rs p', dDk bs (erCls l.cells.xs) p = (rs, p') -> OkP p' -> rs.length <= 3 -> R (vT deckT ⟨⟨v', rs⟩⟩) G (osl 42 ruleT v' rs :: sPl b cv p' :: L)) : CallT Tryz.prog 27 #[.pointer (some ⟨b, 0, none⟩), vT libT l] G (sPl b cv p :: L) R := by
 refine CallT.enter (args := _) Tryz.func27 rfl rfl (by kernel_rfl) rfl ?_
 refine WP.sr ?_
 refine RG.ot rfl (OT.box (cs := libT.enc l) rfl rfl rfl fun b3 => ?_)
 refine RG.ot rfl (OT.alloc rfl Zr29 fun b4 => ?_)
 refine RG.nil (WP.sr (RG.p (PV.build (vs := []) (out := [_]) rfl Zr29 Pl29 trivial rfl) ?_))
 refine RG.ot rfl (OT.alloc rfl Zr29 fun b5 => ?_)
 refine RG.ot rfl (OT.storeW (vs := [_]) rfl Sz29 rfl rfl (Cl.c rfl) rfl rfl (OneC.c rfl) ?_)
 refine RG.nil (WP.seq (WP.sr (RG.p (PV.move rfl rfl) ?_)))
 refine RG.callF (vs := [_, _]) rfl rfl En57 rfl (CallT.exB (b := b) (nextP_s hcode (by assumption) (by omega) (fun w10 pw10 ew10 ow10 hw10 => ?_)))
 refine RG.p (PV.add rfl rfl rfl (by omega)) (RG.mr rfl (RG.nil (WP.block ?_)))
 refine WP.cv ((Cv.p (C := blk b5 29 [.slice none 0 0] :: blk b4 29 [.slice none 0 0] :: blk b3 26 (libT.enc l) :: sPl b cv pw10 :: L)).trans (Cv.nilS (e := 42) (F := ruleT))) ?_
 refine WP.loop4 [0, 3, 4, 5] (fun (j : Int) (rs : List Rule) (q : Value) (pj : Pl) => (0 <= j ∧ j <= 3) ∧ (rs.length : Int) + j <= 3 ∧ OkP pj ∧ dRus bs (erCls l.cells.xs) j.toNat rs pj = dRus bs (erCls l.cells.xs) (w10 + 1).toNat [] pw10) (fun (j : Int) (rs : List Rule) (q : Value) (pj : Pl) => [(6, vi j)]) (fun (j : Int) (rs : List Rule) (q : Value) (pj : Pl) => osl 42 ruleT q rs :: blk b5 29 [q] :: blk b4 29 [.slice none 0 0] :: blk b3 26 (libT.enc l) :: sPl b cv pj :: L) (fun (j : Int) (rs : List Rule) (q : Value) (pj : Pl) => j.toNat) (w10 + 1) [] (.slice none 0 0) pw10 ⟨by omega, by simp; omega, by assumption, rfl⟩ ⟨rfl, trivial⟩ Cv.p ?_
 rintro j rs q pj τ ⟨hj, hrl, hpj, hdj⟩
 refine WP.seq (WP.sr (RG.ml rfl (RG.p (PV.gtr rfl rfl rfl) (RG.nil ?_))))
 refine WP.cond rfl (fun h2 => ?_) fun h2 => ?_
 ·have h2 := odt h2
  refine WP.skip (WP.seq (WP.block (WP.sr (RG.p (PV.move rfl rfl) (RG.p (PV.loadW rfl Ag26 rfl rfl) ?_)))))
  refine RG.callF (vs := [_, _]) rfl rfl En37 rfl (CallT.exB (b := b) (dRu_s hcode (by assumption) hL.up hx hlb (fun x18 p18 e18 o18 => ?_)))
  refine RG.ot rfl (OT.alloc rfl Zr42 fun b7 => ?_)
  refine RG.ot rfl (OT.storeW (vs := [vi _, vi _, vi _, vi _, vi _]) rfl Sz42 rfl rfl (Cl.c rfl) rfl rfl (OneC.c rfl) ?_)
  refine RG.nil ?_
  refine WP.cut2 [0, 3, 4, 5, 6, 7] (fun (x2 : Rule) (p2 : Pl) => OkP p2 ∧ dRu2 bs (erCls l.cells.xs) pj = (x2, p2)) (fun (x2 : Rule) (p2 : Pl) => []) (fun (x2 : Rule) (p2 : Pl) => blk b7 42 (ruleT.enc x2) :: osl 42 ruleT q rs :: blk b5 29 [q] :: blk b4 29 [.slice none 0 0] :: blk b3 26 (libT.enc l) :: sPl b cv p2 :: L) ?_ ?_
  refine WP.sr (RG.p (PV.field rfl Fo42_3 rfl) (RG.p (PV.load1 rfl Sc2 rfl (Rd.blk rfl)) (RG.p (PV.eql rfl rfl rfl) (RG.bl rfl ?_))))
  refine RG.spl (t := 22) rfl (fun g1 => ?_) (fun g1 => ?_)
  ·have g2 := odt g1
   refine RG.take rfl rfl rfl g1 ?_
   refine RG.p (PV.move rfl rfl) ?_
   refine RG.take rfl rfl rfl g1 ?_
   refine RG.callF (vs := [_, _]) rfl rfl En57 rfl (CallT.exB (b := b) (nextP_s hcode (by assumption) (by omega) (fun w24 pw24 ew24 ow24 hw24 => ?_)))
   refine RG.take rfl rfl rfl g1 ?_
   refine RG.p (PV.neq rfl rfl rfl) (RG.p (PV.pickT rfl rfl g1 rfl) (RG.nil ?_))
   refine WP.cond rfl (fun h4 => ?_) fun h4 => ?_
   ·have h4 : ¬ w24 = 0 := by simpa using h4
    refine WP.region (RG.p (PV.field rfl Fo42_3 rfl) ?_)
    refine RG.ot rfl (OT.storeB (vs := [vi _]) (cs' := [_, _, _, _, _]) rfl Sz2 rfl rfl (Cl.c rfl) rfl (OneC.c rfl) rfl rfl ?_)
    refine RG.nil ?_
    exact ⟨rfl, ⟨x18.kind, x18.layer, x18.other, 2, x18.percent⟩, pw24, ⟨by assumption, by simp only [dRu2, e18, g2, if_true, ew24, if_neg h4]⟩, trivial, ⟨rfl, rfl, rfl, rfl, rfl, rfl, trivial⟩, Cv.p⟩
   ·have h4 : w24 = 0 := by simpa using h4
    refine WP.skip ?_
    exact ⟨rfl, x18, pw24, ⟨by assumption, by simp only [dRu2, e18, g2, if_true, ew24, if_pos h4]⟩, trivial, ⟨rfl, rfl, rfl, rfl, rfl, rfl, trivial⟩, Cv.p⟩
  ·have g2 := odf g1
   refine RG.skip rfl rfl rfl (gne g1) ?_
   refine RG.skip rfl rfl rfl (gne g1) ?_
   refine RG.skip rfl rfl rfl (gne g1) ?_
   refine RG.p (PV.pickE rfl rfl g1 rfl) (RG.nil ?_)
   refine WP.cond rfl (fun h4 => ?_) fun h4 => ?_
   ·cases h4
   ·refine WP.skip ?_
    exact ⟨rfl, x18, p18, ⟨by assumption, by simp only [dRu2, e18, if_neg g2]⟩, trivial, ⟨rfl, rfl, rfl, rfl, rfl, rfl, trivial⟩, Cv.p⟩
  rintro x2 p2 τ1 ⟨hp2, hd2⟩
  refine WP.sr (RG.p (PV.field rfl Fo29_0 rfl) (RG.p (PV.load1 rfl Sc27 rfl (Rd.blk rfl)) (RG.p (PV.loadW rfl Ag42 rfl rfl) ?_)))
  refine RG.callF (vs := [_, _]) rfl rfl En60 rfl (l16Has_s (v := q) (q := x2) Rs.o ?_)
  refine RG.p (PV.not rfl rfl) (RG.nil ?_)
  have hst : dRus bs (erCls l.cells.xs) j.toNat rs pj = dRus bs (erCls l.cells.xs) (j - 1).toNat (if hasR rs x2 = true then rs else rs ++ [x2]) p2 := by
   rw [show j.toNat = (j - 1).toNat + 1 by omega, dRus, hd2]
  rw [hst] at hdj
  refine WP.cond rfl (fun h8 => ?_) fun h8 => ?_
  ·rw [if_neg (by simpa using h8)] at hdj
   refine WP.region (RG.p (PV.field rfl Fo29_0 rfl) (RG.p (PV.load1 rfl Sc27 rfl (Rd.blk rfl)) (RG.p (PV.loadW rfl Ag42 rfl rfl) ?_)))
   refine RG.ot rfl (OT.bslice (F := ruleT) (els := [⟨_, _, _, _, _⟩]) rfl El27 rfl (by decide) rfl (by decide) ⟨rfl, (Cl.c rfl), trivial⟩ fun v36 => ?_)
   refine RG.ot rfl (OT.append (v := q) (u := v36) (F := ruleT) rfl El27 rfl (by decide) rfl rfl Rs.o (OneL.c (fun _ => rfl)) rfl (by first | omega | (simp <;> omega)) fun v37 => ?_)
   refine RG.p (PV.field rfl Fo29_0 rfl) ?_
   refine RG.ot rfl (OT.storeB (v := v37) (vs := [_]) (cs' := [_]) rfl Sz27 rfl rfl (Cl.s (v := v37) SlF.o) rfl (OneC.sl SlF.o OneC.nil) rfl rfl ?_)
   refine RG.nil (WP.region (RG.ml rfl (RG.p (PV.sub rfl rfl rfl (by omega)) (RG.mr rfl (RG.nil ?_)))))
   exact ⟨rfl, j - 1, (rs ++ [x2]), v37, p2, ⟨by omega, by simp; omega, by assumption, hdj⟩, ⟨rfl, trivial⟩, ⟨rfl, rfl, rfl, rfl, trivial⟩, Cv.p, by omega⟩
  ·rw [if_pos (by simpa using h8)] at hdj
   refine WP.skip (WP.region (RG.ml rfl (RG.p (PV.sub rfl rfl rfl (by omega)) (RG.mr rfl (RG.nil ?_)))))
   exact ⟨rfl, j - 1, rs, q, p2, ⟨by omega, by omega, by assumption, hdj⟩, ⟨rfl, trivial⟩, ⟨rfl, rfl, rfl, rfl, trivial⟩, Cv.p, by omega⟩
 ·have h2 := odf h2
  rw [show j.toNat = 0 by omega, dRus] at hdj
  refine WP.exit (WP.sr (RG.p (PV.loadW rfl Ag29 rfl rfl) ?_))
  refine RG.ot rfl (OT.storeW (vs := [_]) rfl Sz29 rfl rfl (Cl.c rfl) rfl rfl (OneC.sl (SlF.o (v := q)) OneC.nil) ?_)
  refine RG.nil ?_
  exact WP.ret ⟨_, _, ResV.one rfl (RV1.cell rfl Ag29 rfl), Cv.p, k q rs pj (by simp only [dDk, ew10, <- hdj]) (by assumption) (by omega)⟩
theorem erCls_set (xs : List Cell) (i : Nat) (c : Cell) : erCls (xs.set i c) = (erCls xs).set i (erCl c) := List.map_set
theorem gd_setC {cs : List ECell} {i j : Nat} {c : ECell} (hi : i < cs.length) : gd (cs.set i c) j = if i = j then c else gd cs j := by
 by_cases e : i = j
 ·subst e; simp [gd, List.getElem?_set, hi]
 ·simp [gd, List.getElem?_set, e]
theorem smC.set {N : Nat} {cs : List ECell} {c : ECell} {i : Nat} (h : smC N cs) (hi : i < cs.length) (hn : c.name.size <= 9) (hl : ∀ j, j < c.labels.length -> (gd c.labels j).name.size <= 9) (hs : ∀ j, j < c.shapes.length -> -2 <= (gd c.shapes j).layer ∧ (gd c.shapes j).layer <= 9) (hN : c.shapes.length <= N ∧ c.labels.length <= N ∧ c.insts.length <= N) : smC N (cs.set i c) := fun j hj => by
 have hj : j < cs.length := by simpa using hj
 rw [gd_setC hi]
 by_cases e : i = j
 ·rw [if_pos e]; exact ⟨⟨hn, hl, hs⟩, hN⟩
 ·rw [if_neg e]; exact h j hj
theorem erCls_gd_self {xs : List Cell} {i : Nat} (h : i < xs.length) : erCls xs = (erCls xs).set i (gd (erCls xs) i) := by
 rw [gd_eq (by rw [erCls_len]; exact h)]; simp
theorem erCls_set_self {xs : List Cell} {i : Nat} (h : i < xs.length) : (erCls xs).set i ⟨(gd xs i).name, (gd xs i).shapes.xs, (gd xs i).labels.xs, (gd xs i).insts.xs⟩ = erCls xs := by
 have e : gd (erCls xs) i = ⟨(gd xs i).name, (gd xs i).shapes.xs, (gd xs i).labels.xs, (gd xs i).insts.xs⟩ := erCls_gd h
 rw [<- e, <- erCls_gd_self h]
theorem odd_sh {c : Cell} {n : ByteArray} {ss : List Shape} {ls : List Label} {is : List Inst} {v : Value} {x : Shape} (h : erCl c = ⟨n, ss, ls, is⟩) : erCl (Cell.s1 ⟨v, c.shapes.xs ++ [x]⟩ c) = ⟨n, ss ++ [x], ls, is⟩ := by
 obtain ⟨nm, ⟨a, b⟩, ⟨a2, b2⟩, ⟨a3, b3⟩⟩ := c
 simp only [erCl, ECell.mk.injEq] at h
 obtain ⟨rfl, rfl, rfl, rfl⟩ := h
 rfl
section
variable {e e0 e2 e3 : TypeId} {q v : Value} {xs : List Cell} {i : Nat}
theorem Cv.putSh {ss : List Shape} (hi : i < xs.length) : Cv (osl e shapeT v ss :: bag (((shs xs).map (ownS e shapeT)).set i emp) :: osl e0 cellT q (xs.set i (Cell.s1 ⟨v, ss⟩ (gd xs i))) :: bagS e2 labelT (lbs xs) :: bagS e3 instT (ins xs) :: L)
  (osl e0 cellT q (xs.set i (Cell.s1 ⟨v, ss⟩ (gd xs i))) :: bagS e shapeT (shs (xs.set i (Cell.s1 ⟨v, ss⟩ (gd xs i)))) :: bagS e2 labelT (lbs (xs.set i (Cell.s1 ⟨v, ss⟩ (gd xs i)))) :: bagS e3 instT (ins (xs.set i (Cell.s1 ⟨v, ss⟩ (gd xs i)))) :: L) := by
 have e1 : ins (xs.set i (Cell.s1 ⟨v, ss⟩ (gd xs i))) = ins xs := map_set_same hi rfl
 have e2' : lbs (xs.set i (Cell.s1 ⟨v, ss⟩ (gd xs i))) = lbs xs := map_set_same hi rfl
 have e3' : shs (xs.set i (Cell.s1 ⟨v, ss⟩ (gd xs i))) = (shs xs).set i ⟨v, ss⟩ := by rw [shs, shs, List.map_set]
 rw [e1, e2', e3']
 exact (Cv.bagS_put i (by simpa [shs] using hi)).trans Cv.p
theorem Cv.putLb {ss : List Label} (hi : i < xs.length) : Cv (osl e labelT v ss :: bag (((lbs xs).map (ownS e labelT)).set i emp) :: osl e0 cellT q (xs.set i (Cell.s2 ⟨v, ss⟩ (gd xs i))) :: bagS e2 shapeT (shs xs) :: bagS e3 instT (ins xs) :: L)
  (osl e0 cellT q (xs.set i (Cell.s2 ⟨v, ss⟩ (gd xs i))) :: bagS e2 shapeT (shs (xs.set i (Cell.s2 ⟨v, ss⟩ (gd xs i)))) :: bagS e labelT (lbs (xs.set i (Cell.s2 ⟨v, ss⟩ (gd xs i)))) :: bagS e3 instT (ins (xs.set i (Cell.s2 ⟨v, ss⟩ (gd xs i)))) :: L) := by
 have e1 : ins (xs.set i (Cell.s2 ⟨v, ss⟩ (gd xs i))) = ins xs := map_set_same hi rfl
 have e2' : shs (xs.set i (Cell.s2 ⟨v, ss⟩ (gd xs i))) = shs xs := map_set_same hi rfl
 have e3' : lbs (xs.set i (Cell.s2 ⟨v, ss⟩ (gd xs i))) = (lbs xs).set i ⟨v, ss⟩ := by rw [lbs, lbs, List.map_set]
 rw [e1, e2', e3']
 exact (Cv.bagS_put i (by simpa [lbs] using hi)).trans Cv.p
theorem Cv.putIn {ss : List Inst} (hi : i < xs.length) : Cv (osl e instT v ss :: bag (((ins xs).map (ownS e instT)).set i emp) :: osl e0 cellT q (xs.set i (Cell.s3 ⟨v, ss⟩ (gd xs i))) :: bagS e2 shapeT (shs xs) :: bagS e3 labelT (lbs xs) :: L)
  (osl e0 cellT q (xs.set i (Cell.s3 ⟨v, ss⟩ (gd xs i))) :: bagS e2 shapeT (shs (xs.set i (Cell.s3 ⟨v, ss⟩ (gd xs i)))) :: bagS e3 labelT (lbs (xs.set i (Cell.s3 ⟨v, ss⟩ (gd xs i)))) :: bagS e instT (ins (xs.set i (Cell.s3 ⟨v, ss⟩ (gd xs i)))) :: L) := by
 have e1 : lbs (xs.set i (Cell.s3 ⟨v, ss⟩ (gd xs i))) = lbs xs := map_set_same hi rfl
 have e2' : shs (xs.set i (Cell.s3 ⟨v, ss⟩ (gd xs i))) = shs xs := map_set_same hi rfl
 have e3' : ins (xs.set i (Cell.s3 ⟨v, ss⟩ (gd xs i))) = (ins xs).set i ⟨v, ss⟩ := by rw [ins, ins, List.map_set]
 rw [e1, e2', e3']
 exact (Cv.bagS_put i (by simpa [ins] using hi)).trans Cv.p
end
theorem app_lay {ss : List Shape} {x : Shape} (h : ∀ j, j < ss.length -> -2 <= (gd ss j).layer ∧ (gd ss j).layer <= 9) (hx : -2 <= x.layer ∧ x.layer <= 9) : ∀ j, j < (ss ++ [x]).length -> -2 <= (gd (ss ++ [x]) j).layer ∧ (gd (ss ++ [x]) j).layer <= 9 := fun j hj => by
 have hj : j < ss.length + 1 := by simpa using hj
 by_cases e : j = ss.length
 ·subst e; rw [gd_app_r]; exact hx
 ·rw [gd_app_l (by omega)]; exact h j (by omega)
theorem app_nm {ss : List Label} {x : Label} (h : ∀ j, j < ss.length -> (gd ss j).name.size <= 9) (hx : x.name.size <= 9) : ∀ j, j < (ss ++ [x]).length -> (gd (ss ++ [x]) j).name.size <= 9 := fun j hj => by
 have hj : j < ss.length + 1 := by simpa using hj
 by_cases e : j = ss.length
 ·subst e; rw [gd_app_r]; exact hx
 ·rw [gd_app_l (by omega)]; exact h j (by omega)
abbrev ttA : List ByteArray := [ByteArray.mk #[], ByteArray.mk #[65], ByteArray.mk #[97, 98, 99, 100, 101, 102, 103, 104, 105], ByteArray.mk #[97, 32, 98]]
theorem ttT_ok {i : Nat} (h : i < 4) : (gd ttT i).size <= 9 := by
 have key : ∀ b ∈ ttT, b.size <= 9 := by decide
 exact key _ (gd_mem h)
theorem dAny_s {b : Nat} {cv : Value} {bs : List UInt8} {p : Pl} (hcode : SL G byteT cv bs) (hp : OkP p) (k : ∀ v xs p', dAny bs p = (erCls xs, p') -> OkP p' -> smC 40 (erCls xs) -> 1 <= xs.length -> xs.length <= 4 -> R (vT libT ⟨⟨v, xs⟩⟩) G (osl 95 cellT v (xs) :: bagS 109 shapeT (shs (xs)) :: bagS 182 labelT (lbs (xs)) :: bagS 111 instT (ins (xs)) :: sPl b cv p' :: L)) : CallT Tryz.prog 107 #[.pointer (some ⟨b, 0, none⟩)] G (sPl b cv p :: L) R := by
 refine CallT.enter (args := _) Tryz.func107 rfl rfl (by kernel_rfl) rfl ?_
 have hl4 : ttA.length = 4 := rfl
 refine WP.sr ?_
 refine RG.ot rfl (OT.alloc rfl Zr26 fun b2 => ?_)
 refine RG.nil (WP.sr (RG.p (PV.move rfl rfl) ?_))
 refine RG.callF (vs := [_]) rfl rfl En164 rfl (CallT.exB (b := b) (dLibF_s hcode (by assumption) (fun w9 xs p9 e9 o9 s9 hx1 hx4 => ?_)))
 refine RG.ot rfl (OT.alloc rfl Zr26 fun b3 => ?_)
 refine RG.ot rfl (OT.storeW (vs := [_]) rfl Sz26 rfl rfl (Cl.c rfl) rfl rfl (OneC.sl (SlF.o (v := w9)) OneC.nil) ?_)
 refine RG.nil (WP.sr (RG.p (PV.move rfl rfl) (RG.p (PV.field rfl Fo26_0 rfl) (RG.p (PV.load1 rfl Sc24 rfl (Rd.blk rfl)) (RG.p (PV.len (v := w9) rfl Tryz.underlying24 rfl SlF.o) ?_)))))
 refine RG.callF (vs := [_, _]) rfl rfl En57 rfl (CallT.exB (b := b) (nextP_s hcode (by assumption) (by omega) (fun w14 pw14 ew14 ow14 hw14 => ?_)))
 refine RG.mr rfl (RG.nil (WP.sr (RG.p (PV.field rfl Fo26_0 rfl) (RG.p (PV.load1 rfl Sc24 rfl (Rd.blk rfl)) (RG.ml rfl (RG.p (PV.idxS (j := w14.toNat) (v := w9) rfl Is24 rfl SlF.o rfl (by first | omega | (simp only [List.length_set]; omega) | (simp only [List.length_cons, List.length_nil]; omega)) (by first | omega | (simp only [List.length_set]; omega) | (simp only [List.length_cons, List.length_nil]; omega))) (RG.p (PV.mvP (.inr rfl) rfl) (RG.nil ?_))))))))
 refine WP.cut2 [2, 3] (fun (ys : List Cell) (p1 : Pl) => OkP p1 ∧ smC 40 (erCls ys) ∧ ys.length = xs.length ∧ (∃ c, dOdd bs (erCls xs) w14 (gd (erCls xs) w14.toNat) pw14 = (c, p1) ∧ erCls ys = (erCls xs).set w14.toNat c)) (fun (ys : List Cell) (p1 : Pl) => []) (fun (ys : List Cell) (p1 : Pl) => osl 95 cellT w9 (ys) :: bagS 109 shapeT (shs (ys)) :: bagS 182 labelT (lbs (ys)) :: bagS 111 instT (ins (ys)) :: blk b3 26 [w9] :: blk b2 26 [.slice none 0 0] :: sPl b cv p1 :: L) ?_ ?_
 refine WP.sr (RG.p (PV.move rfl rfl) ?_)
 refine RG.callF (vs := [_, _]) rfl rfl En57 rfl (CallT.exB (b := b) (nextP_s hcode (by assumption) (by omega) (fun w20 pw20 ew20 ow20 hw20 => ?_)))
 refine RG.nil (WP.block (WP.sr (RG.p (PV.eql rfl rfl rfl) (RG.br rfl (RG.nil ?_)))))
 have hxl : (erCls xs).length = xs.length := erCls_len xs
 have hki : w14.toNat < xs.length := by omega
 have hgk : gd (erCls xs) w14.toNat = erCl (gd xs w14.toNat) := erCls_gd hki
 have hg0 : gd (erCls xs) 0 = erCl (gd xs 0) := erCls_gd (by omega)
 have s40 := s9.mono (show 10 <= 40 by decide)
 have hskn := s9 w14.toNat (by omega)
 rw [hgk] at hskn
 obtain ⟨hsk, hn1, hn2, hn3⟩ := hskn
 have hn1 : (gd xs w14.toNat).shapes.xs.length <= 10 := hn1
 have hn2 : (gd xs w14.toNat).labels.xs.length <= 10 := hn2
 have hn3 : (gd xs w14.toNat).insts.xs.length <= 10 := hn3
 have hset : ∀ c : Cell, c.name.size <= 9 -> (∀ j, j < c.labels.xs.length -> (gd c.labels.xs j).name.size <= 9) -> (∀ j, j < c.shapes.xs.length -> -2 <= (gd c.shapes.xs j).layer ∧ (gd c.shapes.xs j).layer <= 9) -> (c.shapes.xs.length <= 40 ∧ c.labels.xs.length <= 40 ∧ c.insts.xs.length <= 40) -> smC 40 (erCls (xs.set w14.toNat c)) := fun c q1 q2 q3 q4 => by
  rw [erCls_set]; exact s40.set (by omega) q1 q2 q3 q4
 refine WP.cond rfl (fun h1 => ?_) fun h1 => ?_
 ·have h1 := odt h1
  have hs0 := (s9 0 (by omega)).1
  rw [hg0] at hs0
  refine WP.region (RG.p (PV.mvP (.inl rfl) rfl) (RG.p (PV.field rfl Fo26_0 rfl) (RG.p (PV.load1 rfl Sc24 rfl (Rd.blk rfl)) (RG.p (PV.idxS (j := 0) (v := w9) rfl Is24 rfl SlF.o rfl (by first | omega | (simp only [List.length_cons, List.length_nil]; omega)) (by first | omega | (simp only [List.length_cons, List.length_nil]; omega))) (RG.p (PV.field rfl Fo95_0 rfl) (RG.p (PV.loadF (F := cellT) (v := w9) (i := 0) (j := 0) rfl Sc9 rfl rfl (El.o (getG (by omega))) rfl) (RG.p (PV.nilc rfl rfl) (RG.p (PV.field rfl Fo95_0 rfl) ?_))))))))
  refine RG.ot rfl (OT.storeF (F := cellT) (val := Value.string) (cv := fun u => [.string u]) (st := Cell.s0) rfl Sz9 rfl rfl rfl (Cl.c rfl) rfl (OneC.c rfl) (by exact set_self (by omega)) (by first | omega | (simp; omega)) rfl (fun _ _ => rfl) ?_)
  refine RG.nil ?_
  exact ⟨rfl, (xs.set w14.toNat (Cell.s0 (gd xs 0).name (gd xs w14.toNat))), pw20, ⟨by assumption, hset _ hs0.1 hsk.2.1 hsk.2.2 ⟨by simp only [Cell.s0]; omega, by simp only [Cell.s0]; omega, by simp only [Cell.s0]; omega⟩, by simp, _, by simp only [dOdd, ew20, h1, if_true]; rfl, by rw [erCls_set, hg0, hgk]; rfl⟩, trivial, ⟨(by kernel_rfl), (by kernel_rfl), trivial⟩, ((Cv.p (C := osl 95 cellT w9 (xs.set w14.toNat (Cell.s0 (gd xs 0).name (gd xs w14.toNat))) :: bagS 109 shapeT (shs xs) :: bagS 182 labelT (lbs xs) :: bagS 111 instT (ins xs) :: blk b3 26 [w9] :: blk b2 26 [.slice none 0 0] :: sPl b cv pw20 :: L)).trans (Cv.cast (by rw [shs, lbs, ins, shs, lbs, ins, map_set_same (f := Cell.shapes) (i := w14.toNat) (c := Cell.s0 (gd xs 0).name (gd xs w14.toNat)) (by omega) rfl, map_set_same (f := Cell.labels) (i := w14.toNat) (c := Cell.s0 (gd xs 0).name (gd xs w14.toNat)) (by omega) rfl, map_set_same (f := Cell.insts) (i := w14.toNat) (c := Cell.s0 (gd xs 0).name (gd xs w14.toNat)) (by omega) rfl])))⟩
 ·have h1 := odf h1
  refine WP.sr (RG.p (PV.eql rfl rfl rfl) (RG.br rfl (RG.nil ?_)))
  refine WP.cond rfl (fun h2 => ?_) fun h2 => ?_
  ·have h2 := odt h2
   refine WP.region (RG.p (PV.mvP (.inl rfl) rfl) ?_)
   refine RG.ot rfl (OT.bslice (F := strT) (els := [_, _, _, _]) rfl El190 rfl (by decide) rfl (by decide) ⟨rfl, (Cl.c rfl), ⟨rfl, (Cl.c rfl), ⟨rfl, (Cl.c rfl), ⟨rfl, (Cl.c rfl), trivial⟩⟩⟩⟩ fun v34 => ?_)
   refine RG.p (PV.move rfl rfl) ?_
   refine RG.callF (vs := [_, _]) rfl rfl En57 rfl (CallT.exB (b := b) (nextP_s hcode (by assumption) (by omega) (fun w36 pw36 ew36 ow36 hw36 => ?_)))
   refine RG.p (PV.idxS (j := w36.toNat) (v := v34) rfl Is190 rfl SlF.o rfl (by first | omega | (simp only [List.length_cons, List.length_nil]; omega)) (by first | omega | (simp only [List.length_cons, List.length_nil]; omega))) (RG.p (PV.loadE1 rfl Sc9 rfl rfl (El.o (getG (by first | omega | (simp only [List.length_cons, List.length_nil]; omega)))) rfl) (RG.p (PV.nilc rfl rfl) (RG.p (PV.field rfl Fo95_0 rfl) ?_)))
   refine RG.ot rfl (OT.storeF (F := cellT) (val := Value.string) (cv := fun u => [.string u]) (st := Cell.s0) rfl Sz9 rfl rfl rfl (Cl.c rfl) rfl (OneC.c rfl) (by exact set_self (by omega)) (by first | omega | (simp; omega)) rfl (fun _ _ => rfl) ?_)
   refine RG.nil ?_
   have hn := ttT_ok (i := w36.toNat) (by omega)
   exact ⟨rfl, (xs.set w14.toNat (Cell.s0 (gd ttA w36.toNat) (gd xs w14.toNat))), pw36, ⟨by assumption, hset _ hn hsk.2.1 hsk.2.2 ⟨by simp only [Cell.s0]; omega, by simp only [Cell.s0]; omega, by simp only [Cell.s0]; omega⟩, by simp, _, by simp only [dOdd, ew20, if_neg h1, h2, if_true, ew36]; rfl, by rw [erCls_set, hgk]; rfl⟩, trivial, ⟨(by kernel_rfl), (by kernel_rfl), trivial⟩, ((Cv.p (C := osl 95 cellT w9 (xs.set w14.toNat (Cell.s0 (gd ttA w36.toNat) (gd xs w14.toNat))) :: bagS 109 shapeT (shs xs) :: bagS 182 labelT (lbs xs) :: bagS 111 instT (ins xs) :: blk b3 26 [w9] :: blk b2 26 [.slice none 0 0] :: sPl b cv pw36 :: L)).trans (Cv.cast (by rw [shs, lbs, ins, shs, lbs, ins, map_set_same (f := Cell.shapes) (i := w14.toNat) (c := Cell.s0 (gd ttA w36.toNat) (gd xs w14.toNat)) (by omega) rfl, map_set_same (f := Cell.labels) (i := w14.toNat) (c := Cell.s0 (gd ttA w36.toNat) (gd xs w14.toNat)) (by omega) rfl, map_set_same (f := Cell.insts) (i := w14.toNat) (c := Cell.s0 (gd ttA w36.toNat) (gd xs w14.toNat)) (by omega) rfl])))⟩
  ·have h2 := odf h2
   refine WP.sr (RG.p (PV.eql rfl rfl rfl) (RG.br rfl (RG.nil ?_)))
   have hlshs : (shs xs).length = xs.length := by simp [shs]
   have hgshs : gd (shs xs) w14.toNat = (gd xs w14.toNat).shapes := by rw [shs, gd_map _ hki]
   have hllbs : (lbs xs).length = xs.length := by simp [lbs]
   have hglbs : gd (lbs xs) w14.toNat = (gd xs w14.toNat).labels := by rw [lbs, gd_map _ hki]
   have hlins : (ins xs).length = xs.length := by simp [ins]
   have hgins : gd (ins xs) w14.toNat = (gd xs w14.toNat).insts := by rw [ins, gd_map _ hki]
   refine WP.cond rfl (fun h3 => ?_) fun h3 => ?_
   ·have h3 := odt h3
    have hC : ∀ (v : Value) (ss : List Shape) (p' : Pl), Cv (osl 109 shapeT v ss :: bag (((shs xs).map (ownS 109 shapeT)).set w14.toNat emp) :: osl 95 cellT w9 (xs.set w14.toNat (Cell.s1 ⟨v, ss⟩ (gd xs w14.toNat))) :: bagS 182 labelT (lbs xs) :: bagS 111 instT (ins xs) :: blk b3 26 [w9] :: blk b2 26 [.slice none 0 0] :: sPl b cv p' :: L) (osl 95 cellT w9 ((xs.set w14.toNat (Cell.s1 ⟨v, ss⟩ (gd xs w14.toNat)))) :: bagS 109 shapeT (shs ((xs.set w14.toNat (Cell.s1 ⟨v, ss⟩ (gd xs w14.toNat))))) :: bagS 182 labelT (lbs ((xs.set w14.toNat (Cell.s1 ⟨v, ss⟩ (gd xs w14.toNat))))) :: bagS 111 instT (ins ((xs.set w14.toNat (Cell.s1 ⟨v, ss⟩ (gd xs w14.toNat))))) :: blk b3 26 [w9] :: blk b2 26 [.slice none 0 0] :: sPl b cv p' :: L) := fun v ss p' => Cv.putSh (by omega)
    have hJ : ∀ (v : Value) (x : Shape) (p' : Pl), OkP p' -> (-2 <= x.layer ∧ x.layer <= 9) -> dOdd bs (erCls xs) w14 (gd (erCls xs) w14.toNat) pw14 = (⟨(gd xs w14.toNat).name, (gd xs w14.toNat).shapes.xs ++ [x], (gd xs w14.toNat).labels.xs, (gd xs w14.toNat).insts.xs⟩, p') -> OkP p' ∧ smC 40 (erCls (xs.set w14.toNat (Cell.s1 ⟨v, (gd xs w14.toNat).shapes.xs ++ [x]⟩ (gd xs w14.toNat)))) ∧ (xs.set w14.toNat (Cell.s1 ⟨v, (gd xs w14.toNat).shapes.xs ++ [x]⟩ (gd xs w14.toNat))).length = xs.length ∧ ∃ c, dOdd bs (erCls xs) w14 (gd (erCls xs) w14.toNat) pw14 = (c, p') ∧ erCls (xs.set w14.toNat (Cell.s1 ⟨v, (gd xs w14.toNat).shapes.xs ++ [x]⟩ (gd xs w14.toNat))) = (erCls xs).set w14.toNat c := fun v x p' h1 h2 h3 => ⟨h1, hset _ hsk.1 hsk.2.1 (app_lay hsk.2.2 h2) ⟨by simp only [Cell.s1, List.length_append, List.length_cons, List.length_nil]; omega, by simp only [Cell.s1, List.length_append, List.length_cons, List.length_nil]; omega, by simp only [Cell.s1, List.length_append, List.length_cons, List.length_nil]; omega⟩, by simp, _, h3, by rw [erCls_set]; rfl⟩
    refine WP.cv ((Cv.p (C := bagS 109 shapeT (shs xs) :: osl 95 cellT w9 xs :: bagS 182 labelT (lbs xs) :: bagS 111 instT (ins xs) :: blk b3 26 [w9] :: blk b2 26 [.slice none 0 0] :: sPl b cv pw20 :: L)).trans ((Cv.bagS_take w14.toNat (by rw [hlshs]; omega)).trans (Cv.cast (by rw [hgshs])))) ?_
    refine WP.regionHD [.s w9, .s (gd xs w14.toNat).shapes.v, .b b] (.q 0 (.q 1 (.q 2 (.q 3 (.q 5 (.q 8 (.q 11 (.q 14 (.q 17 (.b 4 (.l 6 (.q 7 (.l 9 (.q 10 (.l 12 (.q 13 (.l 15 (.q 16 (.l 18 (.q 19 (.q 20 (.q 21 (.l 22 (.l 23 (.q 24 (.q 25 (.l 26 Sch.nil))))))))))))))))) 6 (.q 7 (.b 4 (.l 9 (.q 10 (.l 12 (.q 13 (.l 15 (.q 16 (.l 18 (.q 19 (.q 20 (.q 21 (.l 22 (.l 23 (.q 24 (.q 25 (.l 26 Sch.nil))))))))))))))) 9 (.q 10 (.b 4 (.l 12 (.q 13 (.l 15 (.q 16 (.l 18 (.q 19 (.q 20 (.q 21 (.l 22 (.l 23 (.q 24 (.q 25 (.l 26 Sch.nil))))))))))))) 12 (.q 13 (.b 4 (.l 15 (.q 16 (.l 18 (.q 19 (.q 20 (.q 21 (.l 22 (.l 23 (.q 24 (.q 25 (.l 26 Sch.nil))))))))))) 15 (.q 16 (.b 4 (.l 18 (.q 19 (.q 20 (.q 21 (.l 22 (.l 23 (.q 24 (.q 25 (.l 26 Sch.nil))))))))) 18 (.q 19 (.q 20 (.q 21 (.b 4 (.l 22 (.l 23 (.q 24 (.q 25 (.l 26 Sch.nil))))) 22 (.l 4 (.l 23 (.q 24 (.q 25 (.l 26 Sch.nil))))))))))))))))))))))))))) (by kernel_rfl) (by kernel_rfl) (by kernel_rfl) rfl ?_
    refine RH.w rfl rfl (PV.mvP (.inl rfl) rfl) (RH.w rfl rfl (PV.mvP (.inl rfl) rfl) (RH.w rfl rfl (PV.nilc rfl rfl) (RH.w rfl rfl (PV.field rfl Fo95_1 rfl) (RH.w rfl rfl (PV.move rfl rfl) (RH.w rfl rfl (PV.move rfl rfl) (RH.w rfl rfl (PV.move rfl rfl) (RH.w rfl rfl (PV.move rfl rfl) (RH.w rfl rfl (PV.move rfl rfl) ?_))))))))
    ·refine RH.ot2 rfl rfl rfl rfl  (OT.pv (PV.loadF (F := cellT) (v := w9) (i := w14.toNat) (j := 1) rfl Sc66 rfl rfl (El.o (getG (by omega))) rfl) (kp ?_)) (OT.callF (vs := [_, _]) rfl En57 rfl (CallT.exB (b := b) (nextP_s hcode (by assumption) (by omega) (fun w49 pw49 ew49 ow49 hw49 => (kp ?_)))))
     ·refine RH.ot rfl rfl (OT.callF (vs := [_, _]) rfl En57 rfl (CallT.exB (b := b) (nextP_s hcode (by assumption) (by omega) (fun w49 pw49 ew49 ow49 hw49 => (kp ?_)))))
      refine RH.w rfl rfl (PV.sub rfl rfl rfl (by first | omega | (simp only [List.length_cons, List.length_nil]; omega))) ?_
      refine RH.ot rfl rfl (OT.callF (vs := [_, _]) rfl En57 rfl (CallT.exB (b := b) (nextP_s hcode (by assumption) (by omega) (fun w52 pw52 ew52 ow52 hw52 => (kp ?_)))))
      refine RH.w rfl rfl (PV.sub rfl rfl rfl (by first | omega | (simp only [List.length_cons, List.length_nil]; omega))) ?_
      refine RH.ot rfl rfl (OT.callF (vs := [_, _]) rfl En57 rfl (CallT.exB (b := b) (nextP_s hcode (by assumption) (by omega) (fun w55 pw55 ew55 ow55 hw55 => (kp ?_)))))
      refine RH.w rfl rfl (PV.sub rfl rfl rfl (by first | omega | (simp only [List.length_cons, List.length_nil]; omega))) ?_
      refine RH.ot rfl rfl (OT.callF (vs := [_, _]) rfl En57 rfl (CallT.exB (b := b) (nextP_s hcode (by assumption) (by omega) (fun w58 pw58 ew58 ow58 hw58 => (kp ?_)))))
      refine RH.w rfl rfl (PV.sub rfl rfl rfl (by first | omega | (simp only [List.length_cons, List.length_nil]; omega))) ?_
      refine RH.ot rfl rfl (OT.callF (vs := [_, _]) rfl En57 rfl (CallT.exB (b := b) (nextP_s hcode (by assumption) (by omega) (fun w61 pw61 ew61 ow61 hw61 => (kp ?_)))))
      refine RH.w rfl rfl (PV.sub rfl rfl rfl (by first | omega | (simp only [List.length_cons, List.length_nil]; omega))) (RH.w rfl rfl (PV.build (vs := [(0, [vi _]), (1, [vi _]), (2, [vi _]), (3, [vi _])]) (out := [_, _, _, _]) rfl Zr101 Pl101 ⟨rfl, (Cl.c rfl), ⟨rfl, (Cl.c rfl), ⟨rfl, (Cl.c rfl), ⟨rfl, (Cl.c rfl), trivial⟩⟩⟩⟩ rfl) (RH.w rfl rfl (PV.build (vs := [(0, [vi _]), (1, [vi _, vi _, vi _, vi _])]) (out := [_, _, _, _, _]) rfl Zr109 Pl109 ⟨rfl, (Cl.c rfl), ⟨rfl, (Cl.c rfl), trivial⟩⟩ rfl) ?_))
      refine RH.ot rfl rfl (OT.bslice (F := shapeT) (els := [⟨w49 - 2, ⟨w52 - 45, w55 - 45, w58 - 45, w61 - 45⟩⟩]) rfl El66 rfl (by decide) rfl (by decide) ⟨rfl, (Cl.c rfl), trivial⟩ fun v65 => (kp ?_))
      refine RH.ot rfl rfl (OT.append (v := (gd xs w14.toNat).shapes.v) (u := v65) (F := shapeT) rfl El66 rfl (by decide) rfl rfl Rs.o (OneL.c (fun _ => rfl)) rfl (by first | omega | (simp <;> omega)) fun v66 => (kp ?_))
      refine RH.w rfl rfl (PV.nilc rfl rfl) (RH.w rfl rfl (PV.field rfl Fo95_1 rfl) ?_)
      refine RH.ot rfl rfl (OT.storeF (F := cellT) (val := Sl.v) (cv := fun u => [u.v]) (u := ⟨v66, (gd xs w14.toNat).shapes.xs ++ [⟨w49 - 2, ⟨w52 - 45, w55 - 45, w58 - 45, w61 - 45⟩⟩]⟩) (st := Cell.s1) rfl Sz66 rfl rfl rfl (Cl.s (v := v66) SlF.o) rfl (OneC.sl SlF.o OneC.nil) (by exact set_self (by omega)) (by first | omega | (simp; omega)) rfl (fun _ _ => rfl) (kp ?_))
      refine RH.nil ?_
      exact ⟨rfl, _, pw61, hJ v66 ⟨w49 - 2, ⟨w52 - 45, w55 - 45, w58 - 45, w61 - 45⟩⟩ _ (by assumption) (by (try simp only); omega) (by simp only [dOdd, ew20, if_neg h1, if_neg h2, h3, if_true, ew49, dBx9, ew52, ew55, ew58, ew61]; rw [hgk]; rfl), trivial, ⟨(by kernel_rfl), (by kernel_rfl), trivial⟩, Cv.p.trans (hC v66 _ _)⟩
     ·refine RH.w rfl rfl (PV.sub rfl rfl rfl (by first | omega | (simp only [List.length_cons, List.length_nil]; omega))) ?_
      refine RH.ot2 rfl rfl rfl rfl  (OT.pv (PV.loadF (F := cellT) (v := w9) (i := w14.toNat) (j := 1) rfl Sc66 rfl rfl (El.o (getG (by omega))) rfl) (kp ?_)) (OT.callF (vs := [_, _]) rfl En57 rfl (CallT.exB (b := b) (nextP_s hcode (by assumption) (by omega) (fun w52 pw52 ew52 ow52 hw52 => (kp ?_)))))
      ·refine RH.ot rfl rfl (OT.callF (vs := [_, _]) rfl En57 rfl (CallT.exB (b := b) (nextP_s hcode (by assumption) (by omega) (fun w52 pw52 ew52 ow52 hw52 => (kp ?_)))))
       refine RH.w rfl rfl (PV.sub rfl rfl rfl (by first | omega | (simp only [List.length_cons, List.length_nil]; omega))) ?_
       refine RH.ot rfl rfl (OT.callF (vs := [_, _]) rfl En57 rfl (CallT.exB (b := b) (nextP_s hcode (by assumption) (by omega) (fun w55 pw55 ew55 ow55 hw55 => (kp ?_)))))
       refine RH.w rfl rfl (PV.sub rfl rfl rfl (by first | omega | (simp only [List.length_cons, List.length_nil]; omega))) ?_
       refine RH.ot rfl rfl (OT.callF (vs := [_, _]) rfl En57 rfl (CallT.exB (b := b) (nextP_s hcode (by assumption) (by omega) (fun w58 pw58 ew58 ow58 hw58 => (kp ?_)))))
       refine RH.w rfl rfl (PV.sub rfl rfl rfl (by first | omega | (simp only [List.length_cons, List.length_nil]; omega))) ?_
       refine RH.ot rfl rfl (OT.callF (vs := [_, _]) rfl En57 rfl (CallT.exB (b := b) (nextP_s hcode (by assumption) (by omega) (fun w61 pw61 ew61 ow61 hw61 => (kp ?_)))))
       refine RH.w rfl rfl (PV.sub rfl rfl rfl (by first | omega | (simp only [List.length_cons, List.length_nil]; omega))) (RH.w rfl rfl (PV.build (vs := [(0, [vi _]), (1, [vi _]), (2, [vi _]), (3, [vi _])]) (out := [_, _, _, _]) rfl Zr101 Pl101 ⟨rfl, (Cl.c rfl), ⟨rfl, (Cl.c rfl), ⟨rfl, (Cl.c rfl), ⟨rfl, (Cl.c rfl), trivial⟩⟩⟩⟩ rfl) (RH.w rfl rfl (PV.build (vs := [(0, [vi _]), (1, [vi _, vi _, vi _, vi _])]) (out := [_, _, _, _, _]) rfl Zr109 Pl109 ⟨rfl, (Cl.c rfl), ⟨rfl, (Cl.c rfl), trivial⟩⟩ rfl) ?_))
       refine RH.ot rfl rfl (OT.bslice (F := shapeT) (els := [⟨w49 - 2, ⟨w52 - 45, w55 - 45, w58 - 45, w61 - 45⟩⟩]) rfl El66 rfl (by decide) rfl (by decide) ⟨rfl, (Cl.c rfl), trivial⟩ fun v65 => (kp ?_))
       refine RH.ot rfl rfl (OT.append (v := (gd xs w14.toNat).shapes.v) (u := v65) (F := shapeT) rfl El66 rfl (by decide) rfl rfl Rs.o (OneL.c (fun _ => rfl)) rfl (by first | omega | (simp <;> omega)) fun v66 => (kp ?_))
       refine RH.w rfl rfl (PV.nilc rfl rfl) (RH.w rfl rfl (PV.field rfl Fo95_1 rfl) ?_)
       refine RH.ot rfl rfl (OT.storeF (F := cellT) (val := Sl.v) (cv := fun u => [u.v]) (u := ⟨v66, (gd xs w14.toNat).shapes.xs ++ [⟨w49 - 2, ⟨w52 - 45, w55 - 45, w58 - 45, w61 - 45⟩⟩]⟩) (st := Cell.s1) rfl Sz66 rfl rfl rfl (Cl.s (v := v66) SlF.o) rfl (OneC.sl SlF.o OneC.nil) (by exact set_self (by omega)) (by first | omega | (simp; omega)) rfl (fun _ _ => rfl) (kp ?_))
       refine RH.nil ?_
       exact ⟨rfl, _, pw61, hJ v66 ⟨w49 - 2, ⟨w52 - 45, w55 - 45, w58 - 45, w61 - 45⟩⟩ _ (by assumption) (by (try simp only); omega) (by simp only [dOdd, ew20, if_neg h1, if_neg h2, h3, if_true, ew49, dBx9, ew52, ew55, ew58, ew61]; rw [hgk]; rfl), trivial, ⟨(by kernel_rfl), (by kernel_rfl), trivial⟩, Cv.p.trans (hC v66 _ _)⟩
      ·refine RH.w rfl rfl (PV.sub rfl rfl rfl (by first | omega | (simp only [List.length_cons, List.length_nil]; omega))) ?_
       refine RH.ot2 rfl rfl rfl rfl  (OT.pv (PV.loadF (F := cellT) (v := w9) (i := w14.toNat) (j := 1) rfl Sc66 rfl rfl (El.o (getG (by omega))) rfl) (kp ?_)) (OT.callF (vs := [_, _]) rfl En57 rfl (CallT.exB (b := b) (nextP_s hcode (by assumption) (by omega) (fun w55 pw55 ew55 ow55 hw55 => (kp ?_)))))
       ·refine RH.ot rfl rfl (OT.callF (vs := [_, _]) rfl En57 rfl (CallT.exB (b := b) (nextP_s hcode (by assumption) (by omega) (fun w55 pw55 ew55 ow55 hw55 => (kp ?_)))))
        refine RH.w rfl rfl (PV.sub rfl rfl rfl (by first | omega | (simp only [List.length_cons, List.length_nil]; omega))) ?_
        refine RH.ot rfl rfl (OT.callF (vs := [_, _]) rfl En57 rfl (CallT.exB (b := b) (nextP_s hcode (by assumption) (by omega) (fun w58 pw58 ew58 ow58 hw58 => (kp ?_)))))
        refine RH.w rfl rfl (PV.sub rfl rfl rfl (by first | omega | (simp only [List.length_cons, List.length_nil]; omega))) ?_
        refine RH.ot rfl rfl (OT.callF (vs := [_, _]) rfl En57 rfl (CallT.exB (b := b) (nextP_s hcode (by assumption) (by omega) (fun w61 pw61 ew61 ow61 hw61 => (kp ?_)))))
        refine RH.w rfl rfl (PV.sub rfl rfl rfl (by first | omega | (simp only [List.length_cons, List.length_nil]; omega))) (RH.w rfl rfl (PV.build (vs := [(0, [vi _]), (1, [vi _]), (2, [vi _]), (3, [vi _])]) (out := [_, _, _, _]) rfl Zr101 Pl101 ⟨rfl, (Cl.c rfl), ⟨rfl, (Cl.c rfl), ⟨rfl, (Cl.c rfl), ⟨rfl, (Cl.c rfl), trivial⟩⟩⟩⟩ rfl) (RH.w rfl rfl (PV.build (vs := [(0, [vi _]), (1, [vi _, vi _, vi _, vi _])]) (out := [_, _, _, _, _]) rfl Zr109 Pl109 ⟨rfl, (Cl.c rfl), ⟨rfl, (Cl.c rfl), trivial⟩⟩ rfl) ?_))
        refine RH.ot rfl rfl (OT.bslice (F := shapeT) (els := [⟨w49 - 2, ⟨w52 - 45, w55 - 45, w58 - 45, w61 - 45⟩⟩]) rfl El66 rfl (by decide) rfl (by decide) ⟨rfl, (Cl.c rfl), trivial⟩ fun v65 => (kp ?_))
        refine RH.ot rfl rfl (OT.append (v := (gd xs w14.toNat).shapes.v) (u := v65) (F := shapeT) rfl El66 rfl (by decide) rfl rfl Rs.o (OneL.c (fun _ => rfl)) rfl (by first | omega | (simp <;> omega)) fun v66 => (kp ?_))
        refine RH.w rfl rfl (PV.nilc rfl rfl) (RH.w rfl rfl (PV.field rfl Fo95_1 rfl) ?_)
        refine RH.ot rfl rfl (OT.storeF (F := cellT) (val := Sl.v) (cv := fun u => [u.v]) (u := ⟨v66, (gd xs w14.toNat).shapes.xs ++ [⟨w49 - 2, ⟨w52 - 45, w55 - 45, w58 - 45, w61 - 45⟩⟩]⟩) (st := Cell.s1) rfl Sz66 rfl rfl rfl (Cl.s (v := v66) SlF.o) rfl (OneC.sl SlF.o OneC.nil) (by exact set_self (by omega)) (by first | omega | (simp; omega)) rfl (fun _ _ => rfl) (kp ?_))
        refine RH.nil ?_
        exact ⟨rfl, _, pw61, hJ v66 ⟨w49 - 2, ⟨w52 - 45, w55 - 45, w58 - 45, w61 - 45⟩⟩ _ (by assumption) (by (try simp only); omega) (by simp only [dOdd, ew20, if_neg h1, if_neg h2, h3, if_true, ew49, dBx9, ew52, ew55, ew58, ew61]; rw [hgk]; rfl), trivial, ⟨(by kernel_rfl), (by kernel_rfl), trivial⟩, Cv.p.trans (hC v66 _ _)⟩
       ·refine RH.w rfl rfl (PV.sub rfl rfl rfl (by first | omega | (simp only [List.length_cons, List.length_nil]; omega))) ?_
        refine RH.ot2 rfl rfl rfl rfl  (OT.pv (PV.loadF (F := cellT) (v := w9) (i := w14.toNat) (j := 1) rfl Sc66 rfl rfl (El.o (getG (by omega))) rfl) (kp ?_)) (OT.callF (vs := [_, _]) rfl En57 rfl (CallT.exB (b := b) (nextP_s hcode (by assumption) (by omega) (fun w58 pw58 ew58 ow58 hw58 => (kp ?_)))))
        ·refine RH.ot rfl rfl (OT.callF (vs := [_, _]) rfl En57 rfl (CallT.exB (b := b) (nextP_s hcode (by assumption) (by omega) (fun w58 pw58 ew58 ow58 hw58 => (kp ?_)))))
         refine RH.w rfl rfl (PV.sub rfl rfl rfl (by first | omega | (simp only [List.length_cons, List.length_nil]; omega))) ?_
         refine RH.ot rfl rfl (OT.callF (vs := [_, _]) rfl En57 rfl (CallT.exB (b := b) (nextP_s hcode (by assumption) (by omega) (fun w61 pw61 ew61 ow61 hw61 => (kp ?_)))))
         refine RH.w rfl rfl (PV.sub rfl rfl rfl (by first | omega | (simp only [List.length_cons, List.length_nil]; omega))) (RH.w rfl rfl (PV.build (vs := [(0, [vi _]), (1, [vi _]), (2, [vi _]), (3, [vi _])]) (out := [_, _, _, _]) rfl Zr101 Pl101 ⟨rfl, (Cl.c rfl), ⟨rfl, (Cl.c rfl), ⟨rfl, (Cl.c rfl), ⟨rfl, (Cl.c rfl), trivial⟩⟩⟩⟩ rfl) (RH.w rfl rfl (PV.build (vs := [(0, [vi _]), (1, [vi _, vi _, vi _, vi _])]) (out := [_, _, _, _, _]) rfl Zr109 Pl109 ⟨rfl, (Cl.c rfl), ⟨rfl, (Cl.c rfl), trivial⟩⟩ rfl) ?_))
         refine RH.ot rfl rfl (OT.bslice (F := shapeT) (els := [⟨w49 - 2, ⟨w52 - 45, w55 - 45, w58 - 45, w61 - 45⟩⟩]) rfl El66 rfl (by decide) rfl (by decide) ⟨rfl, (Cl.c rfl), trivial⟩ fun v65 => (kp ?_))
         refine RH.ot rfl rfl (OT.append (v := (gd xs w14.toNat).shapes.v) (u := v65) (F := shapeT) rfl El66 rfl (by decide) rfl rfl Rs.o (OneL.c (fun _ => rfl)) rfl (by first | omega | (simp <;> omega)) fun v66 => (kp ?_))
         refine RH.w rfl rfl (PV.nilc rfl rfl) (RH.w rfl rfl (PV.field rfl Fo95_1 rfl) ?_)
         refine RH.ot rfl rfl (OT.storeF (F := cellT) (val := Sl.v) (cv := fun u => [u.v]) (u := ⟨v66, (gd xs w14.toNat).shapes.xs ++ [⟨w49 - 2, ⟨w52 - 45, w55 - 45, w58 - 45, w61 - 45⟩⟩]⟩) (st := Cell.s1) rfl Sz66 rfl rfl rfl (Cl.s (v := v66) SlF.o) rfl (OneC.sl SlF.o OneC.nil) (by exact set_self (by omega)) (by first | omega | (simp; omega)) rfl (fun _ _ => rfl) (kp ?_))
         refine RH.nil ?_
         exact ⟨rfl, _, pw61, hJ v66 ⟨w49 - 2, ⟨w52 - 45, w55 - 45, w58 - 45, w61 - 45⟩⟩ _ (by assumption) (by (try simp only); omega) (by simp only [dOdd, ew20, if_neg h1, if_neg h2, h3, if_true, ew49, dBx9, ew52, ew55, ew58, ew61]; rw [hgk]; rfl), trivial, ⟨(by kernel_rfl), (by kernel_rfl), trivial⟩, Cv.p.trans (hC v66 _ _)⟩
        ·refine RH.w rfl rfl (PV.sub rfl rfl rfl (by first | omega | (simp only [List.length_cons, List.length_nil]; omega))) ?_
         refine RH.ot2 rfl rfl rfl rfl  (OT.pv (PV.loadF (F := cellT) (v := w9) (i := w14.toNat) (j := 1) rfl Sc66 rfl rfl (El.o (getG (by omega))) rfl) (kp ?_)) (OT.callF (vs := [_, _]) rfl En57 rfl (CallT.exB (b := b) (nextP_s hcode (by assumption) (by omega) (fun w61 pw61 ew61 ow61 hw61 => (kp ?_)))))
         ·refine RH.ot rfl rfl (OT.callF (vs := [_, _]) rfl En57 rfl (CallT.exB (b := b) (nextP_s hcode (by assumption) (by omega) (fun w61 pw61 ew61 ow61 hw61 => (kp ?_)))))
          refine RH.w rfl rfl (PV.sub rfl rfl rfl (by first | omega | (simp only [List.length_cons, List.length_nil]; omega))) (RH.w rfl rfl (PV.build (vs := [(0, [vi _]), (1, [vi _]), (2, [vi _]), (3, [vi _])]) (out := [_, _, _, _]) rfl Zr101 Pl101 ⟨rfl, (Cl.c rfl), ⟨rfl, (Cl.c rfl), ⟨rfl, (Cl.c rfl), ⟨rfl, (Cl.c rfl), trivial⟩⟩⟩⟩ rfl) (RH.w rfl rfl (PV.build (vs := [(0, [vi _]), (1, [vi _, vi _, vi _, vi _])]) (out := [_, _, _, _, _]) rfl Zr109 Pl109 ⟨rfl, (Cl.c rfl), ⟨rfl, (Cl.c rfl), trivial⟩⟩ rfl) ?_))
          refine RH.ot rfl rfl (OT.bslice (F := shapeT) (els := [⟨w49 - 2, ⟨w52 - 45, w55 - 45, w58 - 45, w61 - 45⟩⟩]) rfl El66 rfl (by decide) rfl (by decide) ⟨rfl, (Cl.c rfl), trivial⟩ fun v65 => (kp ?_))
          refine RH.ot rfl rfl (OT.append (v := (gd xs w14.toNat).shapes.v) (u := v65) (F := shapeT) rfl El66 rfl (by decide) rfl rfl Rs.o (OneL.c (fun _ => rfl)) rfl (by first | omega | (simp <;> omega)) fun v66 => (kp ?_))
          refine RH.w rfl rfl (PV.nilc rfl rfl) (RH.w rfl rfl (PV.field rfl Fo95_1 rfl) ?_)
          refine RH.ot rfl rfl (OT.storeF (F := cellT) (val := Sl.v) (cv := fun u => [u.v]) (u := ⟨v66, (gd xs w14.toNat).shapes.xs ++ [⟨w49 - 2, ⟨w52 - 45, w55 - 45, w58 - 45, w61 - 45⟩⟩]⟩) (st := Cell.s1) rfl Sz66 rfl rfl rfl (Cl.s (v := v66) SlF.o) rfl (OneC.sl SlF.o OneC.nil) (by exact set_self (by omega)) (by first | omega | (simp; omega)) rfl (fun _ _ => rfl) (kp ?_))
          refine RH.nil ?_
          exact ⟨rfl, _, pw61, hJ v66 ⟨w49 - 2, ⟨w52 - 45, w55 - 45, w58 - 45, w61 - 45⟩⟩ _ (by assumption) (by (try simp only); omega) (by simp only [dOdd, ew20, if_neg h1, if_neg h2, h3, if_true, ew49, dBx9, ew52, ew55, ew58, ew61]; rw [hgk]; rfl), trivial, ⟨(by kernel_rfl), (by kernel_rfl), trivial⟩, Cv.p.trans (hC v66 _ _)⟩
         ·refine RH.w rfl rfl (PV.sub rfl rfl rfl (by first | omega | (simp only [List.length_cons, List.length_nil]; omega))) ?_
          refine RH.w rfl rfl (PV.build (vs := [(0, [vi _]), (1, [vi _]), (2, [vi _]), (3, [vi _])]) (out := [_, _, _, _]) rfl Zr101 Pl101 ⟨rfl, (Cl.c rfl), ⟨rfl, (Cl.c rfl), ⟨rfl, (Cl.c rfl), ⟨rfl, (Cl.c rfl), trivial⟩⟩⟩⟩ rfl) (RH.w rfl rfl (PV.build (vs := [(0, [vi _]), (1, [vi _, vi _, vi _, vi _])]) (out := [_, _, _, _, _]) rfl Zr109 Pl109 ⟨rfl, (Cl.c rfl), ⟨rfl, (Cl.c rfl), trivial⟩⟩ rfl) ?_)
          refine RH.ot2 rfl rfl rfl rfl  (OT.pv (PV.loadF (F := cellT) (v := w9) (i := w14.toNat) (j := 1) rfl Sc66 rfl rfl (El.o (getG (by omega))) rfl) (kp ?_)) (OT.bslice (F := shapeT) (els := [⟨w49 - 2, ⟨w52 - 45, w55 - 45, w58 - 45, w61 - 45⟩⟩]) rfl El66 rfl (by decide) rfl (by decide) ⟨rfl, (Cl.c rfl), trivial⟩ fun v65 => (kp ?_))
          ·refine RH.ot rfl rfl (OT.bslice (F := shapeT) (els := [⟨w49 - 2, ⟨w52 - 45, w55 - 45, w58 - 45, w61 - 45⟩⟩]) rfl El66 rfl (by decide) rfl (by decide) ⟨rfl, (Cl.c rfl), trivial⟩ fun v65 => (kp ?_))
           refine RH.ot rfl rfl (OT.append (v := (gd xs w14.toNat).shapes.v) (u := v65) (F := shapeT) rfl El66 rfl (by decide) rfl rfl Rs.o (OneL.c (fun _ => rfl)) rfl (by first | omega | (simp <;> omega)) fun v66 => (kp ?_))
           refine RH.w rfl rfl (PV.nilc rfl rfl) (RH.w rfl rfl (PV.field rfl Fo95_1 rfl) ?_)
           refine RH.ot rfl rfl (OT.storeF (F := cellT) (val := Sl.v) (cv := fun u => [u.v]) (u := ⟨v66, (gd xs w14.toNat).shapes.xs ++ [⟨w49 - 2, ⟨w52 - 45, w55 - 45, w58 - 45, w61 - 45⟩⟩]⟩) (st := Cell.s1) rfl Sz66 rfl rfl rfl (Cl.s (v := v66) SlF.o) rfl (OneC.sl SlF.o OneC.nil) (by exact set_self (by omega)) (by first | omega | (simp; omega)) rfl (fun _ _ => rfl) (kp ?_))
           refine RH.nil ?_
           exact ⟨rfl, _, pw61, hJ v66 ⟨w49 - 2, ⟨w52 - 45, w55 - 45, w58 - 45, w61 - 45⟩⟩ _ (by assumption) (by (try simp only); omega) (by simp only [dOdd, ew20, if_neg h1, if_neg h2, h3, if_true, ew49, dBx9, ew52, ew55, ew58, ew61]; rw [hgk]; rfl), trivial, ⟨(by kernel_rfl), (by kernel_rfl), trivial⟩, Cv.p.trans (hC v66 _ _)⟩
          ·refine RH.ot rfl rfl (OT.pv (PV.loadF (F := cellT) (v := w9) (i := w14.toNat) (j := 1) rfl Sc66 rfl rfl (El.o (getG (by omega))) rfl) (kp ?_))
           refine RH.ot rfl rfl (OT.append (v := (gd xs w14.toNat).shapes.v) (u := v65) (F := shapeT) rfl El66 rfl (by decide) rfl rfl Rs.o (OneL.c (fun _ => rfl)) rfl (by first | omega | (simp <;> omega)) fun v66 => (kp ?_))
           refine RH.w rfl rfl (PV.nilc rfl rfl) (RH.w rfl rfl (PV.field rfl Fo95_1 rfl) ?_)
           refine RH.ot rfl rfl (OT.storeF (F := cellT) (val := Sl.v) (cv := fun u => [u.v]) (u := ⟨v66, (gd xs w14.toNat).shapes.xs ++ [⟨w49 - 2, ⟨w52 - 45, w55 - 45, w58 - 45, w61 - 45⟩⟩]⟩) (st := Cell.s1) rfl Sz66 rfl rfl rfl (Cl.s (v := v66) SlF.o) rfl (OneC.sl SlF.o OneC.nil) (by exact set_self (by omega)) (by first | omega | (simp; omega)) rfl (fun _ _ => rfl) (kp ?_))
           refine RH.nil ?_
           exact ⟨rfl, _, pw61, hJ v66 ⟨w49 - 2, ⟨w52 - 45, w55 - 45, w58 - 45, w61 - 45⟩⟩ _ (by assumption) (by (try simp only); omega) (by simp only [dOdd, ew20, if_neg h1, if_neg h2, h3, if_true, ew49, dBx9, ew52, ew55, ew58, ew61]; rw [hgk]; rfl), trivial, ⟨(by kernel_rfl), (by kernel_rfl), trivial⟩, Cv.p.trans (hC v66 _ _)⟩
   ·have h3 := odf h3
    refine WP.sr (RG.p (PV.eql rfl rfl rfl) (RG.br rfl (RG.nil ?_)))
    refine WP.cond rfl (fun h4 => ?_) fun h4 => ?_
    ·have h4 := odt h4
     refine WP.sr (RG.p (PV.move rfl rfl) (RG.ml rfl (RG.p (PV.add rfl rfl rfl (by first | omega | (simp only [List.length_cons, List.length_nil]; omega))) ?_)))
     refine RG.callF (vs := [_, _]) rfl rfl En165 rfl (CallT.exB (b := b) (dIns_s hcode (by omega) (by assumption) (fun w74 pw74 ew74 ow74 => ?_)))
     refine RG.ot rfl (OT.alloc rfl Zr111 fun b6 => ?_)
     refine RG.ot rfl (OT.storeW (vs := [vi _, vi _, vi _, vi _, vi _, vi _, vi _, vi _]) rfl Sz111 rfl rfl (Cl.c rfl) rfl rfl (OneC.c rfl) ?_)
     refine RG.nil (WP.sr (RG.p (PV.move rfl rfl) ?_))
     refine RG.callF (vs := [_, _]) rfl rfl En57 rfl (CallT.exB (b := b) (nextP_s hcode (by assumption) (by omega) (fun w76 pw76 ew76 ow76 hw76 => ?_)))
     refine RG.p (PV.field rfl Fo111_3 rfl) ?_
     refine RG.ot rfl (OT.storeB (vs := [vi _]) (cs' := [_, _, _, _, _, _, _, _]) rfl Sz2 rfl rfl (Cl.c rfl) rfl (OneC.c rfl) rfl rfl ?_)
     refine RG.nil ?_
     refine WP.cut2 [2, 3, 5, 6] (fun (x : Inst) (p6 : Pl) => OkP p6 ∧ ∃ y6, nx bs pw76 200 = (y6, p6) ∧ x = ⟨w74.cell, w74.place, w74.cols, w76, w74.sx, y6 - 100⟩) (fun (x : Inst) (p6 : Pl) => []) (fun (x : Inst) (p6 : Pl) => blk b6 111 (instT.enc x) :: osl 95 cellT w9 (xs) :: bagS 109 shapeT (shs (xs)) :: bagS 182 labelT (lbs (xs)) :: bagS 111 instT (ins (xs)) :: blk b3 26 [w9] :: blk b2 26 [.slice none 0 0] :: sPl b cv p6 :: L) ?_ ?_
     refine WP.region (RG.p (PV.move rfl rfl) ?_)
     refine RG.callF (vs := [_, _]) rfl rfl En57 rfl (CallT.exB (b := b) (nextP_s hcode (by assumption) (by omega) (fun w79 pw79 ew79 ow79 hw79 => ?_)))
     refine RG.p (PV.sub rfl rfl rfl (by first | omega | (simp only [List.length_cons, List.length_nil]; omega))) (RG.p (PV.field rfl Fo111_5 rfl) ?_)
     refine RG.ot rfl (OT.storeB (vs := [vi _]) (cs' := [_, _, _, _, _, _, _, _]) rfl Sz2 rfl rfl (Cl.c rfl) rfl (OneC.c rfl) rfl rfl ?_)
     refine RG.nil ?_
     ·exact ⟨rfl, ⟨w74.cell, w74.place, w74.cols, w76, w74.sx, w79 - 100⟩, pw79, ⟨by assumption, w79, ew79, rfl⟩, trivial, ⟨(by kernel_rfl), (by kernel_rfl), (by kernel_rfl), (by kernel_rfl), trivial⟩, Cv.p⟩
     rintro x p6 τ4 ⟨hp6, y6, e6, hx6⟩
     have hC : ∀ (v : Value) (ss : List Inst) (p' : Pl), Cv (osl 111 instT v ss :: bag (((ins xs).map (ownS 111 instT)).set w14.toNat emp) :: osl 95 cellT w9 (xs.set w14.toNat (Cell.s3 ⟨v, ss⟩ (gd xs w14.toNat))) :: bagS 109 shapeT (shs xs) :: bagS 182 labelT (lbs xs) :: blk b3 26 [w9] :: blk b2 26 [.slice none 0 0] :: sPl b cv p' :: L) (osl 95 cellT w9 ((xs.set w14.toNat (Cell.s3 ⟨v, ss⟩ (gd xs w14.toNat)))) :: bagS 109 shapeT (shs ((xs.set w14.toNat (Cell.s3 ⟨v, ss⟩ (gd xs w14.toNat))))) :: bagS 182 labelT (lbs ((xs.set w14.toNat (Cell.s3 ⟨v, ss⟩ (gd xs w14.toNat))))) :: bagS 111 instT (ins ((xs.set w14.toNat (Cell.s3 ⟨v, ss⟩ (gd xs w14.toNat))))) :: blk b3 26 [w9] :: blk b2 26 [.slice none 0 0] :: sPl b cv p' :: L) := fun v ss p' => Cv.putIn (by omega)
     have hJ : ∀ (v : Value) (x : Inst) (p' : Pl), OkP p' -> True -> dOdd bs (erCls xs) w14 (gd (erCls xs) w14.toNat) pw14 = (⟨(gd xs w14.toNat).name, (gd xs w14.toNat).shapes.xs, (gd xs w14.toNat).labels.xs, (gd xs w14.toNat).insts.xs ++ [x]⟩, p') -> OkP p' ∧ smC 40 (erCls (xs.set w14.toNat (Cell.s3 ⟨v, (gd xs w14.toNat).insts.xs ++ [x]⟩ (gd xs w14.toNat)))) ∧ (xs.set w14.toNat (Cell.s3 ⟨v, (gd xs w14.toNat).insts.xs ++ [x]⟩ (gd xs w14.toNat))).length = xs.length ∧ ∃ c, dOdd bs (erCls xs) w14 (gd (erCls xs) w14.toNat) pw14 = (c, p') ∧ erCls (xs.set w14.toNat (Cell.s3 ⟨v, (gd xs w14.toNat).insts.xs ++ [x]⟩ (gd xs w14.toNat))) = (erCls xs).set w14.toNat c := fun v x p' h1 h2 h3 => ⟨h1, hset _ hsk.1 hsk.2.1 hsk.2.2 ⟨by simp only [Cell.s3, List.length_append, List.length_cons, List.length_nil]; omega, by simp only [Cell.s3, List.length_append, List.length_cons, List.length_nil]; omega, by simp only [Cell.s3, List.length_append, List.length_cons, List.length_nil]; omega⟩, by simp, _, h3, by rw [erCls_set]; rfl⟩
     refine WP.cv ((Cv.p (C := bagS 111 instT (ins xs) :: osl 95 cellT w9 xs :: bagS 109 shapeT (shs xs) :: bagS 182 labelT (lbs xs) :: blk b3 26 [w9] :: blk b2 26 [.slice none 0 0] :: blk b6 111 (instT.enc x) :: sPl b cv p6 :: L)).trans ((Cv.bagS_take w14.toNat (by rw [hlins]; omega)).trans (Cv.cast (by rw [hgins])))) ?_
     refine WP.regionHD [.s w9, .s (gd xs w14.toNat).insts.v] (.q 0 (.q 1 (.q 2 (.q 3 (.q 5 (.b 4 (.l 6 (.l 7 (.q 8 (.q 9 (.l 10 Sch.nil))))) 6 (.l 4 (.l 7 (.q 8 (.q 9 (.l 10 Sch.nil))))))))))) (by kernel_rfl) (by kernel_rfl) (by kernel_rfl) rfl ?_
     refine RH.w rfl rfl (PV.mvP (.inl rfl) rfl) (RH.w rfl rfl (PV.mvP (.inl rfl) rfl) (RH.w rfl rfl (PV.nilc rfl rfl) (RH.w rfl rfl (PV.field rfl Fo95_3 rfl) (RH.w rfl rfl (PV.loadW rfl Ag111 rfl rfl) ?_))))
     ·refine RH.ot2 rfl rfl rfl rfl  (OT.pv (PV.loadF (F := cellT) (v := w9) (i := w14.toNat) (j := 3) rfl Sc93 rfl rfl (El.o (getG (by omega))) rfl) (kp ?_)) (OT.bslice (F := instT) (els := [_]) rfl El93 rfl (by decide) rfl (by decide) ⟨rfl, (Cl.c rfl), trivial⟩ fun v88 => (kp ?_))
      ·refine RH.ot rfl rfl (OT.bslice (F := instT) (els := [_]) rfl El93 rfl (by decide) rfl (by decide) ⟨rfl, (Cl.c rfl), trivial⟩ fun v88 => (kp ?_))
       refine RH.ot rfl rfl (OT.append (v := (gd xs w14.toNat).insts.v) (u := v88) (F := instT) rfl El93 rfl (by decide) rfl rfl Rs.o (OneL.c (fun _ => rfl)) rfl (by first | omega | (simp <;> omega)) fun v89 => (kp ?_))
       refine RH.w rfl rfl (PV.nilc rfl rfl) (RH.w rfl rfl (PV.field rfl Fo95_3 rfl) ?_)
       refine RH.ot rfl rfl (OT.storeF (F := cellT) (val := Sl.v) (cv := fun u => [u.v]) (u := ⟨v89, (gd xs w14.toNat).insts.xs ++ [x]⟩) (st := Cell.s3) rfl Sz93 rfl rfl rfl (Cl.s (v := v89) SlF.o) rfl (OneC.sl SlF.o OneC.nil) (by exact set_self (by omega)) (by first | omega | (simp; omega)) rfl (fun _ _ => rfl) (kp ?_))
       refine RH.nil ?_
       exact ⟨rfl, _, p6, hJ v89 x _ hp6 trivial (by simp only [dOdd, ew20, if_neg h1, if_neg h2, if_neg h3, h4, if_true, ew74, ew76, e6, hx6]; rw [hgk]; rfl), trivial, ⟨(by kernel_rfl), (by kernel_rfl), trivial⟩, Cv.p.trans (hC v89 _ _)⟩
      ·refine RH.ot rfl rfl (OT.pv (PV.loadF (F := cellT) (v := w9) (i := w14.toNat) (j := 3) rfl Sc93 rfl rfl (El.o (getG (by omega))) rfl) (kp ?_))
       refine RH.ot rfl rfl (OT.append (v := (gd xs w14.toNat).insts.v) (u := v88) (F := instT) rfl El93 rfl (by decide) rfl rfl Rs.o (OneL.c (fun _ => rfl)) rfl (by first | omega | (simp <;> omega)) fun v89 => (kp ?_))
       refine RH.w rfl rfl (PV.nilc rfl rfl) (RH.w rfl rfl (PV.field rfl Fo95_3 rfl) ?_)
       refine RH.ot rfl rfl (OT.storeF (F := cellT) (val := Sl.v) (cv := fun u => [u.v]) (u := ⟨v89, (gd xs w14.toNat).insts.xs ++ [x]⟩) (st := Cell.s3) rfl Sz93 rfl rfl rfl (Cl.s (v := v89) SlF.o) rfl (OneC.sl SlF.o OneC.nil) (by exact set_self (by omega)) (by first | omega | (simp; omega)) rfl (fun _ _ => rfl) (kp ?_))
       refine RH.nil ?_
       exact ⟨rfl, _, p6, hJ v89 x _ hp6 trivial (by simp only [dOdd, ew20, if_neg h1, if_neg h2, if_neg h3, h4, if_true, ew74, ew76, e6, hx6]; rw [hgk]; rfl), trivial, ⟨(by kernel_rfl), (by kernel_rfl), trivial⟩, Cv.p.trans (hC v89 _ _)⟩
    ·have h4 := odf h4
     refine WP.sr (RG.p (PV.eql rfl rfl rfl) (RG.br rfl (RG.nil ?_)))
     refine WP.cond rfl (fun h5 => ?_) fun h5 => ?_
     ·have h5 := odt h5
      have hC : ∀ (v : Value) (ss : List Label) (p' : Pl), Cv (osl 182 labelT v ss :: bag (((lbs xs).map (ownS 182 labelT)).set w14.toNat emp) :: osl 95 cellT w9 (xs.set w14.toNat (Cell.s2 ⟨v, ss⟩ (gd xs w14.toNat))) :: bagS 109 shapeT (shs xs) :: bagS 111 instT (ins xs) :: blk b3 26 [w9] :: blk b2 26 [.slice none 0 0] :: sPl b cv p' :: L) (osl 95 cellT w9 ((xs.set w14.toNat (Cell.s2 ⟨v, ss⟩ (gd xs w14.toNat)))) :: bagS 109 shapeT (shs ((xs.set w14.toNat (Cell.s2 ⟨v, ss⟩ (gd xs w14.toNat))))) :: bagS 182 labelT (lbs ((xs.set w14.toNat (Cell.s2 ⟨v, ss⟩ (gd xs w14.toNat))))) :: bagS 111 instT (ins ((xs.set w14.toNat (Cell.s2 ⟨v, ss⟩ (gd xs w14.toNat))))) :: blk b3 26 [w9] :: blk b2 26 [.slice none 0 0] :: sPl b cv p' :: L) := fun v ss p' => Cv.putLb (by omega)
      have hJ : ∀ (v : Value) (x : Label) (p' : Pl), OkP p' -> x.name.size <= 9 -> dOdd bs (erCls xs) w14 (gd (erCls xs) w14.toNat) pw14 = (⟨(gd xs w14.toNat).name, (gd xs w14.toNat).shapes.xs, (gd xs w14.toNat).labels.xs ++ [x], (gd xs w14.toNat).insts.xs⟩, p') -> OkP p' ∧ smC 40 (erCls (xs.set w14.toNat (Cell.s2 ⟨v, (gd xs w14.toNat).labels.xs ++ [x]⟩ (gd xs w14.toNat)))) ∧ (xs.set w14.toNat (Cell.s2 ⟨v, (gd xs w14.toNat).labels.xs ++ [x]⟩ (gd xs w14.toNat))).length = xs.length ∧ ∃ c, dOdd bs (erCls xs) w14 (gd (erCls xs) w14.toNat) pw14 = (c, p') ∧ erCls (xs.set w14.toNat (Cell.s2 ⟨v, (gd xs w14.toNat).labels.xs ++ [x]⟩ (gd xs w14.toNat))) = (erCls xs).set w14.toNat c := fun v x p' h1 h2 h3 => ⟨h1, hset _ hsk.1 (app_nm hsk.2.1 h2) hsk.2.2 ⟨by simp only [Cell.s2, List.length_append, List.length_cons, List.length_nil]; omega, by simp only [Cell.s2, List.length_append, List.length_cons, List.length_nil]; omega, by simp only [Cell.s2, List.length_append, List.length_cons, List.length_nil]; omega⟩, by simp, _, h3, by rw [erCls_set]; rfl⟩
      refine WP.cv ((Cv.p (C := bagS 182 labelT (lbs xs) :: osl 95 cellT w9 xs :: bagS 109 shapeT (shs xs) :: bagS 111 instT (ins xs) :: blk b3 26 [w9] :: blk b2 26 [.slice none 0 0] :: sPl b cv pw20 :: L)).trans ((Cv.bagS_take w14.toNat (by rw [hllbs]; omega)).trans (Cv.cast (by rw [hglbs])))) ?_
      refine WP.regionHD [.s w9, .s (gd xs w14.toNat).labels.v, .b b] (.q 0 (.q 1 (.q 2 (.q 3 (.q 5 (.q 8 (.q 11 (.q 15 (.b 4 (.l 6 (.q 7 (.l 9 (.q 10 (.l 12 (.q 13 (.q 14 (.l 16 (.q 17 (.l 18 (.l 19 (.q 20 (.q 21 (.l 22 Sch.nil)))))))))))))) 6 (.q 7 (.b 4 (.l 9 (.q 10 (.l 12 (.q 13 (.q 14 (.l 16 (.q 17 (.l 18 (.l 19 (.q 20 (.q 21 (.l 22 Sch.nil)))))))))))) 9 (.q 10 (.b 4 (.l 12 (.q 13 (.q 14 (.l 16 (.q 17 (.l 18 (.l 19 (.q 20 (.q 21 (.l 22 Sch.nil)))))))))) 12 (.q 13 (.q 14 (.b 4 (.l 16 (.q 17 (.l 18 (.l 19 (.q 20 (.q 21 (.l 22 Sch.nil))))))) 16 (.q 17 (.b 4 (.l 18 (.l 19 (.q 20 (.q 21 (.l 22 Sch.nil))))) 18 (.l 4 (.l 19 (.q 20 (.q 21 (.l 22 Sch.nil))))))))))))))))))))))) (by kernel_rfl) (by kernel_rfl) (by kernel_rfl) rfl ?_
      refine RH.w rfl rfl (PV.mvP (.inl rfl) rfl) (RH.w rfl rfl (PV.mvP (.inl rfl) rfl) (RH.w rfl rfl (PV.nilc rfl rfl) (RH.w rfl rfl (PV.field rfl Fo95_2 rfl) (RH.w rfl rfl (PV.move rfl rfl) (RH.w rfl rfl (PV.move rfl rfl) (RH.w rfl rfl (PV.move rfl rfl) (RH.w rfl rfl (PV.move rfl rfl) ?_)))))))
      ·refine RH.ot2 rfl rfl rfl rfl  (OT.pv (PV.loadF (F := cellT) (v := w9) (i := w14.toNat) (j := 2) rfl Sc92 rfl rfl (El.o (getG (by omega))) rfl) (kp ?_)) (OT.callF (vs := [_, _]) rfl En57 rfl (CallT.exB (b := b) (nextP_s hcode (by assumption) (by omega) (fun w100 pw100 ew100 ow100 hw100 => (kp ?_)))))
       ·refine RH.ot rfl rfl (OT.callF (vs := [_, _]) rfl En57 rfl (CallT.exB (b := b) (nextP_s hcode (by assumption) (by omega) (fun w100 pw100 ew100 ow100 hw100 => (kp ?_)))))
        refine RH.w rfl rfl (PV.sub rfl rfl rfl (by first | omega | (simp only [List.length_cons, List.length_nil]; omega))) ?_
        refine RH.ot rfl rfl (OT.callF (vs := [_, _]) rfl En57 rfl (CallT.exB (b := b) (nextP_s hcode (by assumption) (by omega) (fun w103 pw103 ew103 ow103 hw103 => (kp ?_)))))
        refine RH.w rfl rfl (PV.sub rfl rfl rfl (by first | omega | (simp only [List.length_cons, List.length_nil]; omega))) ?_
        refine RH.ot rfl rfl (OT.callF (vs := [_, _]) rfl En57 rfl (CallT.exB (b := b) (nextP_s hcode (by assumption) (by omega) (fun w106 pw106 ew106 ow106 hw106 => (kp ?_)))))
        refine RH.w rfl rfl (PV.sub rfl rfl rfl (by first | omega | (simp only [List.length_cons, List.length_nil]; omega))) (RH.w rfl rfl (PV.build (vs := [(0, [vi _]), (1, [vi _])]) (out := [_, _]) rfl Zr156 Pl156 ⟨rfl, (Cl.c rfl), ⟨rfl, (Cl.c rfl), trivial⟩⟩ rfl) ?_)
        refine RH.ot rfl rfl (OT.callF (vs := [_]) rfl En166 rfl (CallT.exB (b := b) (dName_s hcode (by assumption) (fun w110 pw110 ew110 ow110 hw110 => (kp ?_)))))
        refine RH.w rfl rfl (PV.build (vs := [(0, [vi _]), (1, [vi _, vi _]), (2, [.string _])]) (out := [_, _, _, _]) rfl Zr182 Pl182 ⟨rfl, (Cl.c rfl), ⟨rfl, (Cl.c rfl), ⟨rfl, (Cl.c rfl), trivial⟩⟩⟩ rfl) ?_
        refine RH.ot rfl rfl (OT.bslice (F := labelT) (els := [⟨w100 - 1, ⟨w103 - 45, w106 - 45⟩, w110⟩]) rfl El92 rfl (by decide) rfl (by decide) ⟨rfl, (Cl.c rfl), trivial⟩ fun v112 => (kp ?_))
        refine RH.ot rfl rfl (OT.append (v := (gd xs w14.toNat).labels.v) (u := v112) (F := labelT) rfl El92 rfl (by decide) rfl rfl Rs.o (OneL.c (fun _ => rfl)) rfl (by first | omega | (simp <;> omega)) fun v113 => (kp ?_))
        refine RH.w rfl rfl (PV.nilc rfl rfl) (RH.w rfl rfl (PV.field rfl Fo95_2 rfl) ?_)
        refine RH.ot rfl rfl (OT.storeF (F := cellT) (val := Sl.v) (cv := fun u => [u.v]) (u := ⟨v113, (gd xs w14.toNat).labels.xs ++ [⟨w100 - 1, ⟨w103 - 45, w106 - 45⟩, w110⟩]⟩) (st := Cell.s2) rfl Sz92 rfl rfl rfl (Cl.s (v := v113) SlF.o) rfl (OneC.sl SlF.o OneC.nil) (by exact set_self (by omega)) (by first | omega | (simp; omega)) rfl (fun _ _ => rfl) (kp ?_))
        refine RH.nil ?_
        exact ⟨rfl, _, pw110, hJ v113 ⟨w100 - 1, ⟨w103 - 45, w106 - 45⟩, w110⟩ _ (by assumption) (by (try simp only); omega) (by simp only [dOdd, ew20, if_neg h1, if_neg h2, if_neg h3, if_neg h4, h5, if_true, ew100, ew103, ew106, ew110]; rw [hgk]; rfl), trivial, ⟨(by kernel_rfl), (by kernel_rfl), trivial⟩, Cv.p.trans (hC v113 _ _)⟩
       ·refine RH.w rfl rfl (PV.sub rfl rfl rfl (by first | omega | (simp only [List.length_cons, List.length_nil]; omega))) ?_
        refine RH.ot2 rfl rfl rfl rfl  (OT.pv (PV.loadF (F := cellT) (v := w9) (i := w14.toNat) (j := 2) rfl Sc92 rfl rfl (El.o (getG (by omega))) rfl) (kp ?_)) (OT.callF (vs := [_, _]) rfl En57 rfl (CallT.exB (b := b) (nextP_s hcode (by assumption) (by omega) (fun w103 pw103 ew103 ow103 hw103 => (kp ?_)))))
        ·refine RH.ot rfl rfl (OT.callF (vs := [_, _]) rfl En57 rfl (CallT.exB (b := b) (nextP_s hcode (by assumption) (by omega) (fun w103 pw103 ew103 ow103 hw103 => (kp ?_)))))
         refine RH.w rfl rfl (PV.sub rfl rfl rfl (by first | omega | (simp only [List.length_cons, List.length_nil]; omega))) ?_
         refine RH.ot rfl rfl (OT.callF (vs := [_, _]) rfl En57 rfl (CallT.exB (b := b) (nextP_s hcode (by assumption) (by omega) (fun w106 pw106 ew106 ow106 hw106 => (kp ?_)))))
         refine RH.w rfl rfl (PV.sub rfl rfl rfl (by first | omega | (simp only [List.length_cons, List.length_nil]; omega))) (RH.w rfl rfl (PV.build (vs := [(0, [vi _]), (1, [vi _])]) (out := [_, _]) rfl Zr156 Pl156 ⟨rfl, (Cl.c rfl), ⟨rfl, (Cl.c rfl), trivial⟩⟩ rfl) ?_)
         refine RH.ot rfl rfl (OT.callF (vs := [_]) rfl En166 rfl (CallT.exB (b := b) (dName_s hcode (by assumption) (fun w110 pw110 ew110 ow110 hw110 => (kp ?_)))))
         refine RH.w rfl rfl (PV.build (vs := [(0, [vi _]), (1, [vi _, vi _]), (2, [.string _])]) (out := [_, _, _, _]) rfl Zr182 Pl182 ⟨rfl, (Cl.c rfl), ⟨rfl, (Cl.c rfl), ⟨rfl, (Cl.c rfl), trivial⟩⟩⟩ rfl) ?_
         refine RH.ot rfl rfl (OT.bslice (F := labelT) (els := [⟨w100 - 1, ⟨w103 - 45, w106 - 45⟩, w110⟩]) rfl El92 rfl (by decide) rfl (by decide) ⟨rfl, (Cl.c rfl), trivial⟩ fun v112 => (kp ?_))
         refine RH.ot rfl rfl (OT.append (v := (gd xs w14.toNat).labels.v) (u := v112) (F := labelT) rfl El92 rfl (by decide) rfl rfl Rs.o (OneL.c (fun _ => rfl)) rfl (by first | omega | (simp <;> omega)) fun v113 => (kp ?_))
         refine RH.w rfl rfl (PV.nilc rfl rfl) (RH.w rfl rfl (PV.field rfl Fo95_2 rfl) ?_)
         refine RH.ot rfl rfl (OT.storeF (F := cellT) (val := Sl.v) (cv := fun u => [u.v]) (u := ⟨v113, (gd xs w14.toNat).labels.xs ++ [⟨w100 - 1, ⟨w103 - 45, w106 - 45⟩, w110⟩]⟩) (st := Cell.s2) rfl Sz92 rfl rfl rfl (Cl.s (v := v113) SlF.o) rfl (OneC.sl SlF.o OneC.nil) (by exact set_self (by omega)) (by first | omega | (simp; omega)) rfl (fun _ _ => rfl) (kp ?_))
         refine RH.nil ?_
         exact ⟨rfl, _, pw110, hJ v113 ⟨w100 - 1, ⟨w103 - 45, w106 - 45⟩, w110⟩ _ (by assumption) (by (try simp only); omega) (by simp only [dOdd, ew20, if_neg h1, if_neg h2, if_neg h3, if_neg h4, h5, if_true, ew100, ew103, ew106, ew110]; rw [hgk]; rfl), trivial, ⟨(by kernel_rfl), (by kernel_rfl), trivial⟩, Cv.p.trans (hC v113 _ _)⟩
        ·refine RH.w rfl rfl (PV.sub rfl rfl rfl (by first | omega | (simp only [List.length_cons, List.length_nil]; omega))) ?_
         refine RH.ot2 rfl rfl rfl rfl  (OT.pv (PV.loadF (F := cellT) (v := w9) (i := w14.toNat) (j := 2) rfl Sc92 rfl rfl (El.o (getG (by omega))) rfl) (kp ?_)) (OT.callF (vs := [_, _]) rfl En57 rfl (CallT.exB (b := b) (nextP_s hcode (by assumption) (by omega) (fun w106 pw106 ew106 ow106 hw106 => (kp ?_)))))
         ·refine RH.ot rfl rfl (OT.callF (vs := [_, _]) rfl En57 rfl (CallT.exB (b := b) (nextP_s hcode (by assumption) (by omega) (fun w106 pw106 ew106 ow106 hw106 => (kp ?_)))))
          refine RH.w rfl rfl (PV.sub rfl rfl rfl (by first | omega | (simp only [List.length_cons, List.length_nil]; omega))) (RH.w rfl rfl (PV.build (vs := [(0, [vi _]), (1, [vi _])]) (out := [_, _]) rfl Zr156 Pl156 ⟨rfl, (Cl.c rfl), ⟨rfl, (Cl.c rfl), trivial⟩⟩ rfl) ?_)
          refine RH.ot rfl rfl (OT.callF (vs := [_]) rfl En166 rfl (CallT.exB (b := b) (dName_s hcode (by assumption) (fun w110 pw110 ew110 ow110 hw110 => (kp ?_)))))
          refine RH.w rfl rfl (PV.build (vs := [(0, [vi _]), (1, [vi _, vi _]), (2, [.string _])]) (out := [_, _, _, _]) rfl Zr182 Pl182 ⟨rfl, (Cl.c rfl), ⟨rfl, (Cl.c rfl), ⟨rfl, (Cl.c rfl), trivial⟩⟩⟩ rfl) ?_
          refine RH.ot rfl rfl (OT.bslice (F := labelT) (els := [⟨w100 - 1, ⟨w103 - 45, w106 - 45⟩, w110⟩]) rfl El92 rfl (by decide) rfl (by decide) ⟨rfl, (Cl.c rfl), trivial⟩ fun v112 => (kp ?_))
          refine RH.ot rfl rfl (OT.append (v := (gd xs w14.toNat).labels.v) (u := v112) (F := labelT) rfl El92 rfl (by decide) rfl rfl Rs.o (OneL.c (fun _ => rfl)) rfl (by first | omega | (simp <;> omega)) fun v113 => (kp ?_))
          refine RH.w rfl rfl (PV.nilc rfl rfl) (RH.w rfl rfl (PV.field rfl Fo95_2 rfl) ?_)
          refine RH.ot rfl rfl (OT.storeF (F := cellT) (val := Sl.v) (cv := fun u => [u.v]) (u := ⟨v113, (gd xs w14.toNat).labels.xs ++ [⟨w100 - 1, ⟨w103 - 45, w106 - 45⟩, w110⟩]⟩) (st := Cell.s2) rfl Sz92 rfl rfl rfl (Cl.s (v := v113) SlF.o) rfl (OneC.sl SlF.o OneC.nil) (by exact set_self (by omega)) (by first | omega | (simp; omega)) rfl (fun _ _ => rfl) (kp ?_))
          refine RH.nil ?_
          exact ⟨rfl, _, pw110, hJ v113 ⟨w100 - 1, ⟨w103 - 45, w106 - 45⟩, w110⟩ _ (by assumption) (by (try simp only); omega) (by simp only [dOdd, ew20, if_neg h1, if_neg h2, if_neg h3, if_neg h4, h5, if_true, ew100, ew103, ew106, ew110]; rw [hgk]; rfl), trivial, ⟨(by kernel_rfl), (by kernel_rfl), trivial⟩, Cv.p.trans (hC v113 _ _)⟩
         ·refine RH.w rfl rfl (PV.sub rfl rfl rfl (by first | omega | (simp only [List.length_cons, List.length_nil]; omega))) ?_
          refine RH.w rfl rfl (PV.build (vs := [(0, [vi _]), (1, [vi _])]) (out := [_, _]) rfl Zr156 Pl156 ⟨rfl, (Cl.c rfl), ⟨rfl, (Cl.c rfl), trivial⟩⟩ rfl) ?_
          refine RH.ot2 rfl rfl rfl rfl  (OT.pv (PV.loadF (F := cellT) (v := w9) (i := w14.toNat) (j := 2) rfl Sc92 rfl rfl (El.o (getG (by omega))) rfl) (kp ?_)) (OT.callF (vs := [_]) rfl En166 rfl (CallT.exB (b := b) (dName_s hcode (by assumption) (fun w110 pw110 ew110 ow110 hw110 => (kp ?_)))))
          ·refine RH.ot rfl rfl (OT.callF (vs := [_]) rfl En166 rfl (CallT.exB (b := b) (dName_s hcode (by assumption) (fun w110 pw110 ew110 ow110 hw110 => (kp ?_)))))
           refine RH.w rfl rfl (PV.build (vs := [(0, [vi _]), (1, [vi _, vi _]), (2, [.string _])]) (out := [_, _, _, _]) rfl Zr182 Pl182 ⟨rfl, (Cl.c rfl), ⟨rfl, (Cl.c rfl), ⟨rfl, (Cl.c rfl), trivial⟩⟩⟩ rfl) ?_
           refine RH.ot rfl rfl (OT.bslice (F := labelT) (els := [⟨w100 - 1, ⟨w103 - 45, w106 - 45⟩, w110⟩]) rfl El92 rfl (by decide) rfl (by decide) ⟨rfl, (Cl.c rfl), trivial⟩ fun v112 => (kp ?_))
           refine RH.ot rfl rfl (OT.append (v := (gd xs w14.toNat).labels.v) (u := v112) (F := labelT) rfl El92 rfl (by decide) rfl rfl Rs.o (OneL.c (fun _ => rfl)) rfl (by first | omega | (simp <;> omega)) fun v113 => (kp ?_))
           refine RH.w rfl rfl (PV.nilc rfl rfl) (RH.w rfl rfl (PV.field rfl Fo95_2 rfl) ?_)
           refine RH.ot rfl rfl (OT.storeF (F := cellT) (val := Sl.v) (cv := fun u => [u.v]) (u := ⟨v113, (gd xs w14.toNat).labels.xs ++ [⟨w100 - 1, ⟨w103 - 45, w106 - 45⟩, w110⟩]⟩) (st := Cell.s2) rfl Sz92 rfl rfl rfl (Cl.s (v := v113) SlF.o) rfl (OneC.sl SlF.o OneC.nil) (by exact set_self (by omega)) (by first | omega | (simp; omega)) rfl (fun _ _ => rfl) (kp ?_))
           refine RH.nil ?_
           exact ⟨rfl, _, pw110, hJ v113 ⟨w100 - 1, ⟨w103 - 45, w106 - 45⟩, w110⟩ _ (by assumption) (by (try simp only); omega) (by simp only [dOdd, ew20, if_neg h1, if_neg h2, if_neg h3, if_neg h4, h5, if_true, ew100, ew103, ew106, ew110]; rw [hgk]; rfl), trivial, ⟨(by kernel_rfl), (by kernel_rfl), trivial⟩, Cv.p.trans (hC v113 _ _)⟩
          ·refine RH.w rfl rfl (PV.build (vs := [(0, [vi _]), (1, [vi _, vi _]), (2, [.string _])]) (out := [_, _, _, _]) rfl Zr182 Pl182 ⟨rfl, (Cl.c rfl), ⟨rfl, (Cl.c rfl), ⟨rfl, (Cl.c rfl), trivial⟩⟩⟩ rfl) ?_
           refine RH.ot2 rfl rfl rfl rfl  (OT.pv (PV.loadF (F := cellT) (v := w9) (i := w14.toNat) (j := 2) rfl Sc92 rfl rfl (El.o (getG (by omega))) rfl) (kp ?_)) (OT.bslice (F := labelT) (els := [⟨w100 - 1, ⟨w103 - 45, w106 - 45⟩, w110⟩]) rfl El92 rfl (by decide) rfl (by decide) ⟨rfl, (Cl.c rfl), trivial⟩ fun v112 => (kp ?_))
           ·refine RH.ot rfl rfl (OT.bslice (F := labelT) (els := [⟨w100 - 1, ⟨w103 - 45, w106 - 45⟩, w110⟩]) rfl El92 rfl (by decide) rfl (by decide) ⟨rfl, (Cl.c rfl), trivial⟩ fun v112 => (kp ?_))
            refine RH.ot rfl rfl (OT.append (v := (gd xs w14.toNat).labels.v) (u := v112) (F := labelT) rfl El92 rfl (by decide) rfl rfl Rs.o (OneL.c (fun _ => rfl)) rfl (by first | omega | (simp <;> omega)) fun v113 => (kp ?_))
            refine RH.w rfl rfl (PV.nilc rfl rfl) (RH.w rfl rfl (PV.field rfl Fo95_2 rfl) ?_)
            refine RH.ot rfl rfl (OT.storeF (F := cellT) (val := Sl.v) (cv := fun u => [u.v]) (u := ⟨v113, (gd xs w14.toNat).labels.xs ++ [⟨w100 - 1, ⟨w103 - 45, w106 - 45⟩, w110⟩]⟩) (st := Cell.s2) rfl Sz92 rfl rfl rfl (Cl.s (v := v113) SlF.o) rfl (OneC.sl SlF.o OneC.nil) (by exact set_self (by omega)) (by first | omega | (simp; omega)) rfl (fun _ _ => rfl) (kp ?_))
            refine RH.nil ?_
            exact ⟨rfl, _, pw110, hJ v113 ⟨w100 - 1, ⟨w103 - 45, w106 - 45⟩, w110⟩ _ (by assumption) (by (try simp only); omega) (by simp only [dOdd, ew20, if_neg h1, if_neg h2, if_neg h3, if_neg h4, h5, if_true, ew100, ew103, ew106, ew110]; rw [hgk]; rfl), trivial, ⟨(by kernel_rfl), (by kernel_rfl), trivial⟩, Cv.p.trans (hC v113 _ _)⟩
           ·refine RH.ot rfl rfl (OT.pv (PV.loadF (F := cellT) (v := w9) (i := w14.toNat) (j := 2) rfl Sc92 rfl rfl (El.o (getG (by omega))) rfl) (kp ?_))
            refine RH.ot rfl rfl (OT.append (v := (gd xs w14.toNat).labels.v) (u := v112) (F := labelT) rfl El92 rfl (by decide) rfl rfl Rs.o (OneL.c (fun _ => rfl)) rfl (by first | omega | (simp <;> omega)) fun v113 => (kp ?_))
            refine RH.w rfl rfl (PV.nilc rfl rfl) (RH.w rfl rfl (PV.field rfl Fo95_2 rfl) ?_)
            refine RH.ot rfl rfl (OT.storeF (F := cellT) (val := Sl.v) (cv := fun u => [u.v]) (u := ⟨v113, (gd xs w14.toNat).labels.xs ++ [⟨w100 - 1, ⟨w103 - 45, w106 - 45⟩, w110⟩]⟩) (st := Cell.s2) rfl Sz92 rfl rfl rfl (Cl.s (v := v113) SlF.o) rfl (OneC.sl SlF.o OneC.nil) (by exact set_self (by omega)) (by first | omega | (simp; omega)) rfl (fun _ _ => rfl) (kp ?_))
            refine RH.nil ?_
            exact ⟨rfl, _, pw110, hJ v113 ⟨w100 - 1, ⟨w103 - 45, w106 - 45⟩, w110⟩ _ (by assumption) (by (try simp only); omega) (by simp only [dOdd, ew20, if_neg h1, if_neg h2, if_neg h3, if_neg h4, h5, if_true, ew100, ew103, ew106, ew110]; rw [hgk]; rfl), trivial, ⟨(by kernel_rfl), (by kernel_rfl), trivial⟩, Cv.p.trans (hC v113 _ _)⟩
     ·have h5 := odf h5
      refine WP.sr (RG.p (PV.eql rfl rfl rfl) (RG.br rfl (RG.nil ?_)))
      refine WP.cond rfl (fun h6 => ?_) fun h6 => ?_
      ·have h6 := odt h6
       refine WP.sr (RG.mr rfl (RG.nil (WP.block ?_)))
       refine WP.loop3 [0, 2, 3, 5] (fun (i : Int) (zs : List Cell) (pm : Pl) => (0 <= i ∧ i <= 25) ∧ zs.length = xs.length ∧ OkP pm ∧ ∃ ss : List Shape, erCls zs = (erCls xs).set w14.toNat ⟨(gd xs w14.toNat).name, ss, (gd xs w14.toNat).labels.xs, (gd xs w14.toNat).insts.xs⟩ ∧ dShps bs (25 - i).toNat ss pm = dShps bs 25 (gd xs w14.toNat).shapes.xs pw20 ∧ ((ss.length : Int) <= 10 + i ∧ ∀ j, j < ss.length -> -2 <= (gd ss j).layer ∧ (gd ss j).layer <= 9)) (fun (i : Int) (zs : List Cell) (pm : Pl) => [(7, vi i)]) (fun (i : Int) (zs : List Cell) (pm : Pl) => osl 95 cellT w9 (zs) :: bagS 109 shapeT (shs (zs)) :: bagS 182 labelT (lbs (zs)) :: bagS 111 instT (ins (zs)) :: blk b3 26 [w9] :: blk b2 26 [.slice none 0 0] :: sPl b cv pm :: L) (fun (i : Int) (zs : List Cell) (pm : Pl) => (25 - i).toNat) 0 xs pw20 ⟨by omega, rfl, by assumption, (gd xs w14.toNat).shapes.xs, (erCls_set_self hki).symm, rfl, by omega, hsk.2.2⟩ ⟨(by kernel_rfl), trivial⟩ Cv.p ?_
       rintro i zs pm τ2 ⟨g0, g1, g2, g3⟩
       refine WP.seq (WP.sr (RG.ml rfl (RG.p (PV.lss rfl rfl rfl) (RG.nil ?_))))
       obtain ⟨ss, g4, g5, g7, g6⟩ := g3
       have hz0 : erCl (gd zs w14.toNat) = ⟨(gd xs w14.toNat).name, ss, (gd xs w14.toNat).labels.xs, (gd xs w14.toNat).insts.xs⟩ := by
        rw [<- erCls_gd (by omega), g4, gd_setC (by omega), if_pos rfl]
       refine WP.cond rfl (fun h7 => ?_) fun h7 => ?_
       ·have h7 := odt h7
        have hz1 : (gd zs w14.toNat).shapes.xs = ss := congrArg ECell.shapes hz0
        have hz2 : (gd zs w14.toNat).shapes.xs.length = ss.length := congrArg List.length hz1
        have hlshs : (shs zs).length = zs.length := by simp [shs]
        have hgshs : gd (shs zs) w14.toNat = (gd zs w14.toNat).shapes := by rw [shs, gd_map _ (by omega)]
        have hllbs : (lbs zs).length = zs.length := by simp [lbs]
        have hglbs : gd (lbs zs) w14.toNat = (gd zs w14.toNat).labels := by rw [lbs, gd_map _ (by omega)]
        have hlins : (ins zs).length = zs.length := by simp [ins]
        have hgins : gd (ins zs) w14.toNat = (gd zs w14.toNat).insts := by rw [ins, gd_map _ (by omega)]
        have hC : ∀ (v : Value) (ss : List Shape) (p' : Pl), Cv (osl 109 shapeT v ss :: bag (((shs zs).map (ownS 109 shapeT)).set w14.toNat emp) :: osl 95 cellT w9 (zs.set w14.toNat (Cell.s1 ⟨v, ss⟩ (gd zs w14.toNat))) :: bagS 182 labelT (lbs zs) :: bagS 111 instT (ins zs) :: blk b3 26 [w9] :: blk b2 26 [.slice none 0 0] :: sPl b cv p' :: L) (osl 95 cellT w9 ((zs.set w14.toNat (Cell.s1 ⟨v, ss⟩ (gd zs w14.toNat)))) :: bagS 109 shapeT (shs ((zs.set w14.toNat (Cell.s1 ⟨v, ss⟩ (gd zs w14.toNat))))) :: bagS 182 labelT (lbs ((zs.set w14.toNat (Cell.s1 ⟨v, ss⟩ (gd zs w14.toNat))))) :: bagS 111 instT (ins ((zs.set w14.toNat (Cell.s1 ⟨v, ss⟩ (gd zs w14.toNat))))) :: blk b3 26 [w9] :: blk b2 26 [.slice none 0 0] :: sPl b cv p' :: L) := fun v ss p' => Cv.putSh (by omega)
        refine WP.cv ((Cv.p (C := bagS 109 shapeT (shs zs) :: osl 95 cellT w9 zs :: bagS 182 labelT (lbs zs) :: bagS 111 instT (ins zs) :: blk b3 26 [w9] :: blk b2 26 [.slice none 0 0] :: sPl b cv pm :: L)).trans ((Cv.bagS_take w14.toNat (by rw [hlshs]; omega)).trans (Cv.cast (by rw [hgshs])))) ?_
        refine WP.skip ?_
        refine WP.cut2 [0, 2, 3, 5, 7] (fun (zs2 : List Cell) (pn : Pl) => zs2.length = xs.length ∧ OkP pn ∧ (∃ x : Shape, dShp bs pm = (x, pn) ∧ erCls zs2 = (erCls xs).set w14.toNat ⟨(gd xs w14.toNat).name, ss ++ [x], (gd xs w14.toNat).labels.xs, (gd xs w14.toNat).insts.xs⟩ ∧ -2 <= x.layer ∧ x.layer <= 9)) (fun (zs2 : List Cell) (pn : Pl) => []) (fun (zs2 : List Cell) (pn : Pl) => osl 95 cellT w9 (zs2) :: bagS 109 shapeT (shs (zs2)) :: bagS 182 labelT (lbs (zs2)) :: bagS 111 instT (ins (zs2)) :: blk b3 26 [w9] :: blk b2 26 [.slice none 0 0] :: sPl b cv pn :: L) ?_ ?_
        refine WP.block ?_
        refine WP.regionHD [.s w9, .s (gd zs w14.toNat).shapes.v, .b b] (.q 0 (.q 1 (.q 2 (.q 3 (.q 5 (.b 4 (.l 6 (.l 7 (.l 8 (.q 9 (.q 10 (.l 11 Sch.nil)))))) 6 (.b 4 (.l 7 (.l 8 (.q 9 (.q 10 (.l 11 Sch.nil))))) 7 (.l 4 (.l 8 (.q 9 (.q 10 (.l 11 Sch.nil)))))))))))) (by kernel_rfl) (by kernel_rfl) (by kernel_rfl) rfl ?_
        refine RH.w rfl rfl (PV.mvP (.inl rfl) rfl) (RH.w rfl rfl (PV.mvP (.inl rfl) rfl) (RH.w rfl rfl (PV.nilc rfl rfl) (RH.w rfl rfl (PV.field rfl Fo95_1 rfl) (RH.w rfl rfl (PV.move rfl rfl) ?_))))
        ·refine RH.ot2 rfl rfl rfl rfl  (OT.pv (PV.loadF (F := cellT) (v := w9) (i := w14.toNat) (j := 1) rfl Sc66 rfl rfl (El.o (getG (by omega))) rfl) (kp ?_)) (OT.callF (vs := [_]) rfl En167 rfl (CallT.exB (b := b) (dShp_s hcode (by assumption) (fun w128 pw128 ew128 ow128 hw128 => (kp ?_)))))
         ·refine RH.ot rfl rfl (OT.callF (vs := [_]) rfl En167 rfl (CallT.exB (b := b) (dShp_s hcode (by assumption) (fun w128 pw128 ew128 ow128 hw128 => (kp ?_)))))
          refine RH.ot rfl rfl (OT.bslice (F := shapeT) (els := [w128]) rfl El66 rfl (by decide) rfl (by decide) ⟨rfl, (Cl.c rfl), trivial⟩ fun v129 => (kp ?_))
          refine RH.ot rfl rfl (OT.append (v := (gd zs w14.toNat).shapes.v) (u := v129) (F := shapeT) rfl El66 rfl (by decide) rfl rfl Rs.o (OneL.c (fun _ => rfl)) rfl (by first | omega | (simp <;> omega)) fun v130 => (kp ?_))
          refine RH.w rfl rfl (PV.nilc rfl rfl) (RH.w rfl rfl (PV.field rfl Fo95_1 rfl) ?_)
          refine RH.ot rfl rfl (OT.storeF (F := cellT) (val := Sl.v) (cv := fun u => [u.v]) (u := ⟨v130, (gd zs w14.toNat).shapes.xs ++ [w128]⟩) (st := Cell.s1) rfl Sz66 rfl rfl rfl (Cl.s (v := v130) SlF.o) rfl (OneC.sl SlF.o OneC.nil) (by exact set_self (by omega)) (by first | omega | (simp; omega)) rfl (fun _ _ => rfl) (kp ?_))
          refine RH.nil ?_
          exact ⟨rfl, (zs.set w14.toNat (Cell.s1 ⟨v130, (gd zs w14.toNat).shapes.xs ++ [w128]⟩ (gd zs w14.toNat))), pw128, ⟨by simpa using g1, by assumption, w128, ew128, by rw [erCls_set, g4, List.set_set]; exact congrArg _ (odd_sh hz0), hw128⟩, trivial, ⟨(by kernel_rfl), (by kernel_rfl), (by kernel_rfl), (by kernel_rfl), (by kernel_rfl), trivial⟩, Cv.p.trans (hC v130 _ _)⟩
         ·refine RH.ot2 rfl rfl rfl rfl  (OT.pv (PV.loadF (F := cellT) (v := w9) (i := w14.toNat) (j := 1) rfl Sc66 rfl rfl (El.o (getG (by omega))) rfl) (kp ?_)) (OT.bslice (F := shapeT) (els := [w128]) rfl El66 rfl (by decide) rfl (by decide) ⟨rfl, (Cl.c rfl), trivial⟩ fun v129 => (kp ?_))
          ·refine RH.ot rfl rfl (OT.bslice (F := shapeT) (els := [w128]) rfl El66 rfl (by decide) rfl (by decide) ⟨rfl, (Cl.c rfl), trivial⟩ fun v129 => (kp ?_))
           refine RH.ot rfl rfl (OT.append (v := (gd zs w14.toNat).shapes.v) (u := v129) (F := shapeT) rfl El66 rfl (by decide) rfl rfl Rs.o (OneL.c (fun _ => rfl)) rfl (by first | omega | (simp <;> omega)) fun v130 => (kp ?_))
           refine RH.w rfl rfl (PV.nilc rfl rfl) (RH.w rfl rfl (PV.field rfl Fo95_1 rfl) ?_)
           refine RH.ot rfl rfl (OT.storeF (F := cellT) (val := Sl.v) (cv := fun u => [u.v]) (u := ⟨v130, (gd zs w14.toNat).shapes.xs ++ [w128]⟩) (st := Cell.s1) rfl Sz66 rfl rfl rfl (Cl.s (v := v130) SlF.o) rfl (OneC.sl SlF.o OneC.nil) (by exact set_self (by omega)) (by first | omega | (simp; omega)) rfl (fun _ _ => rfl) (kp ?_))
           refine RH.nil ?_
           exact ⟨rfl, (zs.set w14.toNat (Cell.s1 ⟨v130, (gd zs w14.toNat).shapes.xs ++ [w128]⟩ (gd zs w14.toNat))), pw128, ⟨by simpa using g1, by assumption, w128, ew128, by rw [erCls_set, g4, List.set_set]; exact congrArg _ (odd_sh hz0), hw128⟩, trivial, ⟨(by kernel_rfl), (by kernel_rfl), (by kernel_rfl), (by kernel_rfl), (by kernel_rfl), trivial⟩, Cv.p.trans (hC v130 _ _)⟩
          ·refine RH.ot rfl rfl (OT.pv (PV.loadF (F := cellT) (v := w9) (i := w14.toNat) (j := 1) rfl Sc66 rfl rfl (El.o (getG (by omega))) rfl) (kp ?_))
           refine RH.ot rfl rfl (OT.append (v := (gd zs w14.toNat).shapes.v) (u := v129) (F := shapeT) rfl El66 rfl (by decide) rfl rfl Rs.o (OneL.c (fun _ => rfl)) rfl (by first | omega | (simp <;> omega)) fun v130 => (kp ?_))
           refine RH.w rfl rfl (PV.nilc rfl rfl) (RH.w rfl rfl (PV.field rfl Fo95_1 rfl) ?_)
           refine RH.ot rfl rfl (OT.storeF (F := cellT) (val := Sl.v) (cv := fun u => [u.v]) (u := ⟨v130, (gd zs w14.toNat).shapes.xs ++ [w128]⟩) (st := Cell.s1) rfl Sz66 rfl rfl rfl (Cl.s (v := v130) SlF.o) rfl (OneC.sl SlF.o OneC.nil) (by exact set_self (by omega)) (by first | omega | (simp; omega)) rfl (fun _ _ => rfl) (kp ?_))
           refine RH.nil ?_
           exact ⟨rfl, (zs.set w14.toNat (Cell.s1 ⟨v130, (gd zs w14.toNat).shapes.xs ++ [w128]⟩ (gd zs w14.toNat))), pw128, ⟨by simpa using g1, by assumption, w128, ew128, by rw [erCls_set, g4, List.set_set]; exact congrArg _ (odd_sh hz0), hw128⟩, trivial, ⟨(by kernel_rfl), (by kernel_rfl), (by kernel_rfl), (by kernel_rfl), (by kernel_rfl), trivial⟩, Cv.p.trans (hC v130 _ _)⟩
        rintro zs2 pn τ3 ⟨j0, j1, j2⟩
        refine WP.region (RG.ml rfl (RG.p (PV.add rfl rfl rfl (by first | omega | (simp only [List.length_cons, List.length_nil]; omega))) (RG.mr rfl (RG.nil ?_))))
        obtain ⟨x, j3, j4, j5⟩ := j2
        have hd2 : dShps bs (25 - (i + 1)).toNat (ss ++ [x]) pn = dShps bs 25 (gd xs w14.toNat).shapes.xs pw20 := by
         rw [<- g5, show (25 - i).toNat = (25 - (i + 1)).toNat + 1 by omega, dShps, j3]
        exact ⟨rfl, i + 1, zs2, pn, ⟨by omega, j0, j1, ss ++ [x], j4, hd2, by simp; omega, app_lay g6 j5⟩, ⟨(by kernel_rfl), trivial⟩, ⟨(by kernel_rfl), (by kernel_rfl), (by kernel_rfl), (by kernel_rfl), trivial⟩, Cv.p, by omega⟩
       ·have h7 := odf h7
        rw [show (25 - i).toNat = 0 by omega, dShps] at g5
        refine WP.exit ?_
        exact ⟨rfl, zs, pm, ⟨by assumption, by rw [g4]; exact s40.set (by omega) hsk.1 hsk.2.1 g6 ⟨by (try simp only); omega, by (try simp only); omega, by (try simp only); omega⟩, g1, _, by simp only [dOdd, ew20, if_neg h1, if_neg h2, if_neg h3, if_neg h4, if_neg h5, if_pos h6, hgk]; rw [show (erCl (gd xs w14.toNat)).shapes = (gd xs w14.toNat).shapes.xs from rfl, <- g5]; rfl, g4⟩, trivial, ⟨(by kernel_rfl), (by kernel_rfl), trivial⟩, Cv.p⟩
      ·have h6 := odf h6
       refine WP.skip ?_
       exact ⟨rfl, xs, pw20, ⟨by assumption, s40, rfl, _, by simp only [dOdd, ew20, if_neg h1, if_neg h2, if_neg h3, if_neg h4, if_neg h5, if_neg h6], erCls_gd_self hki⟩, trivial, ⟨(by kernel_rfl), (by kernel_rfl), trivial⟩, Cv.p⟩
 rintro ys p1 τ1 ⟨hp1, hs1, hl1, hd1⟩
 refine WP.sr (RG.p (PV.loadW rfl Ag26 rfl rfl) ?_)
 refine RG.ot rfl (OT.storeW (vs := [_]) rfl Sz26 rfl rfl (Cl.c rfl) rfl rfl (OneC.sl (SlF.o (v := w9)) OneC.nil) ?_)
 refine RG.nil ?_
 refine WP.ret ?_
 obtain ⟨c, hd1, hd2⟩ := hd1
 have hxl : (erCls xs).length = xs.length := erCls_len xs
 exact ⟨_, _, ResV.one rfl (RV1.cell rfl Ag26 rfl), Cv.p, k w9 ys p1 (by simp only [dAny, e9, hxl, ew14, hd1, hd2]) hp1 hs1 (by omega) (by omega)⟩
theorem dLib10_s {b : Nat} {cv : Value} {bs : List UInt8} {p : Pl} (hcode : SL G byteT cv bs) (hp : OkP p) (k : ∀ v xs p', dLibF bs p = (erCls xs, p') -> OkP p' -> smC 10 (erCls xs) -> 1 <= xs.length -> xs.length <= 4 -> R (vT libT ⟨⟨v, xs⟩⟩) G (osl 95 cellT v (xs) :: bagS 109 shapeT (shs (xs)) :: bagS 182 labelT (lbs (xs)) :: bagS 111 instT (ins (xs)) :: sPl b cv p' :: L)) : CallT Tryz.prog 109 #[.pointer (some ⟨b, 0, none⟩)] G (sPl b cv p :: L) R := by
 refine CallT.enter (args := _) Tryz.func109 rfl rfl (by kernel_rfl) rfl ?_
 refine WP.sr ?_
 refine RG.ot rfl (OT.alloc rfl Zr26 fun b2 => ?_)
 refine RG.nil (WP.sr (RG.p (PV.move rfl rfl) ?_))
 refine RG.callF (vs := [_]) rfl rfl En164 rfl (CallT.exB (b := b) (dLibF_s hcode (by assumption) (fun w4 xs p4 e4 o4 s4 hx1 hx4 => ?_)))
 refine RG.ot rfl (OT.storeW (vs := [_]) rfl Sz26 rfl rfl (Cl.c rfl) rfl rfl (OneC.sl (SlF.o (v := w4)) OneC.nil) ?_)
 refine RG.nil ?_
 exact WP.ret ⟨_, _, ResV.one rfl (RV1.cell rfl Ag26 rfl), Cv.p, k w4 xs p4 e4 o4 s4 hx1 hx4⟩
theorem dTop_s {b : Nat} {cv : Value} {bs : List UInt8} {p : Pl} (hcode : SL G byteT cv bs) (hp : OkP p) (k : ∀ v xs n p', dTop bs p = ((erCls xs, n), p') -> OkP p' -> smC 40 (erCls xs) -> 1 <= xs.length -> xs.length <= 4 -> R (.tuple #[vT libT ⟨⟨v, xs⟩⟩, vi n]) G (osl 95 cellT v (xs) :: bagS 109 shapeT (shs (xs)) :: bagS 182 labelT (lbs (xs)) :: bagS 111 instT (ins (xs)) :: sPl b cv p' :: L)) : CallT Tryz.prog 59 #[.pointer (some ⟨b, 0, none⟩)] G (sPl b cv p :: L) R := by
 refine CallT.enter (args := _) Tryz.func59 rfl rfl (by kernel_rfl) rfl ?_
 refine WP.sr ?_
 refine RG.ot rfl (OT.alloc rfl Zr26 fun b2 => ?_)
 refine RG.mr rfl (RG.nil (WP.seq (WP.sr (RG.p (PV.move rfl rfl) ?_))))
 refine RG.callF (vs := [_, _]) rfl rfl En57 rfl (CallT.exB (b := b) (nextP_s hcode (by assumption) (by omega) (fun w7 pw7 ew7 ow7 hw7 => ?_)))
 refine RG.p (PV.eql rfl rfl rfl) (RG.nil ?_)
 refine WP.cond rfl (fun h1 => ?_) fun h1 => ?_
 ·have h1 := odt h1
  refine WP.sr (RG.p (PV.move rfl rfl) ?_)
  refine RG.callF (vs := [_]) rfl rfl En107 rfl (CallT.exB (b := b) (dAny_s hcode (by assumption) (fun w10 xs p10 e10 o10 s10 hx1 hx4 => ?_)))
  refine RG.ot rfl (OT.alloc rfl Zr26 fun b4 => ?_)
  refine RG.ot rfl (OT.storeW (vs := [_]) rfl Sz26 rfl rfl (Cl.c rfl) rfl rfl (OneC.sl (SlF.o (v := w10)) OneC.nil) ?_)
  refine RG.nil ?_
  refine WP.cut2 [2] (fun (n : Int) (p1 : Pl) => OkP p1 ∧ dIdx bs (erCls xs) p10 = (n, p1)) (fun (n : Int) (p1 : Pl) => [(3, vi n)]) (fun (n : Int) (p1 : Pl) => osl 95 cellT w10 (xs) :: bagS 109 shapeT (shs (xs)) :: bagS 182 labelT (lbs (xs)) :: bagS 111 instT (ins (xs)) :: blk b2 26 [w10] :: blk b4 26 [w10] :: sPl b cv p1 :: L) ?_ ?_
  refine WP.regionHD [.b b, .b b2] (.q 0 (.q 1 (.q 2 (.l 3 (.l 4 (.q 5 Sch.nil)))))) (by kernel_rfl) (by kernel_rfl) (by kernel_rfl) rfl ?_
  refine RH.w rfl rfl (PV.loadW rfl Ag26 rfl rfl) (RH.w rfl rfl (PV.move rfl rfl) (RH.w rfl rfl (PV.loadW rfl Ag26 rfl rfl) ?_))
  refine RH.ot rfl rfl (OT.callF (vs := [_, _]) rfl En108 rfl (CallT.exB (b := b) (dIdx_s (l := ⟨⟨w10, xs⟩⟩) hcode (by assumption) Rs.o (by (try simp only); omega) (fun w14 pw14 ew14 ow14 => (kp ?_)))))
  refine RH.ot rfl rfl (OT.storeW (vs := [_]) rfl Sz26 rfl rfl (Cl.c rfl) rfl rfl (OneC.sl (SlF.o (v := w10)) OneC.nil) (kp ?_))
  refine RH.w rfl rfl (PV.mvI (.inr rfl) rfl) (RH.nil ?_)
  ·exact ⟨rfl, w14, pw14, ⟨by assumption, ew14⟩, ⟨rfl, trivial⟩, ⟨rfl, trivial⟩, Cv.p⟩
  rintro n p1 τ1 ⟨hp1, hd1⟩
  exact WP.ret ⟨_, _, ResV.two rfl (RV1.cell rfl Ag26 rfl) rfl, Cv.p, k w10 xs n p1 (by simp only [dTop, ew7, h1, if_true, e10, hd1]) hp1 s10 hx1 hx4⟩
 ·have h1 := odf h1
  refine WP.skip (WP.sr (RG.p (PV.move rfl rfl) ?_))
  refine RG.callF (vs := [_]) rfl rfl En109 rfl (CallT.exB (b := b) (dLib10_s hcode (by assumption) (fun w16 xs p16 e16 o16 s16 hx1 hx4 => ?_)))
  refine RG.ot rfl (OT.alloc rfl Zr26 fun b5 => ?_)
  refine RG.ot rfl (OT.storeW (vs := [_]) rfl Sz26 rfl rfl (Cl.c rfl) rfl rfl (OneC.sl (SlF.o (v := w16)) OneC.nil) ?_)
  refine RG.nil (WP.seq (WP.sr (RG.p (PV.move rfl rfl) ?_)))
  refine RG.callF (vs := [_, _]) rfl rfl En57 rfl (CallT.exB (b := b) (nextP_s hcode (by assumption) (by omega) (fun w18 pw18 ew18 ow18 hw18 => ?_)))
  refine RG.p (PV.eql rfl rfl rfl) (RG.nil ?_)
  refine WP.cond rfl (fun h2 => ?_) fun h2 => ?_
  ·have h2 := odt h2
   refine WP.cut2 [2] (fun (n : Int) (p1 : Pl) => OkP p1 ∧ dIdx bs (erCls xs) pw18 = (n, p1)) (fun (n : Int) (p1 : Pl) => [(3, vi n)]) (fun (n : Int) (p1 : Pl) => osl 95 cellT w16 (xs) :: bagS 109 shapeT (shs (xs)) :: bagS 182 labelT (lbs (xs)) :: bagS 111 instT (ins (xs)) :: blk b2 26 [w16] :: blk b5 26 [w16] :: sPl b cv p1 :: L) ?_ ?_
   refine WP.regionHD [.b b, .b b2] (.q 0 (.q 1 (.q 2 (.l 3 (.l 4 (.q 5 Sch.nil)))))) (by kernel_rfl) (by kernel_rfl) (by kernel_rfl) rfl ?_
   refine RH.w rfl rfl (PV.loadW rfl Ag26 rfl rfl) (RH.w rfl rfl (PV.move rfl rfl) (RH.w rfl rfl (PV.loadW rfl Ag26 rfl rfl) ?_))
   refine RH.ot rfl rfl (OT.callF (vs := [_, _]) rfl En108 rfl (CallT.exB (b := b) (dIdx_s (l := ⟨⟨w16, xs⟩⟩) hcode (by assumption) Rs.o (by (try simp only); omega) (fun w23 pw23 ew23 ow23 => (kp ?_)))))
   refine RH.ot rfl rfl (OT.storeW (vs := [_]) rfl Sz26 rfl rfl (Cl.c rfl) rfl rfl (OneC.sl (SlF.o (v := w16)) OneC.nil) (kp ?_))
   refine RH.w rfl rfl (PV.mvI (.inr rfl) rfl) (RH.nil ?_)
   ·exact ⟨rfl, w23, pw23, ⟨by assumption, ew23⟩, ⟨rfl, trivial⟩, ⟨rfl, trivial⟩, Cv.p⟩
   rintro n p1 τ1 ⟨hp1, hd1⟩
   exact WP.ret ⟨_, _, ResV.two rfl (RV1.cell rfl Ag26 rfl) rfl, Cv.p, k w16 xs n p1 (by simp only [dTop, ew7, if_neg h1, e16, ew18, h2, if_true, hd1]) hp1 (s16.mono (by decide)) hx1 hx4⟩
  ·have h2 := odf h2
   refine WP.skip ?_
   refine WP.cut1 [2] (fun (n : Int) => n = (xs.length : Int) - 1) (fun (n : Int) => [(3, vi n)]) (fun (n : Int) => osl 95 cellT w16 (xs) :: bagS 109 shapeT (shs (xs)) :: bagS 182 labelT (lbs (xs)) :: bagS 111 instT (ins (xs)) :: blk b2 26 [w16] :: blk b5 26 [w16] :: sPl b cv pw18 :: L) ?_ ?_
   refine WP.regionHD [.b b2] (.q 0 (.q 1 (.q 2 (.q 3 (.q 4 (.l 5 (.q 6 Sch.nil))))))) (by kernel_rfl) (by kernel_rfl) (by kernel_rfl) rfl ?_
   refine RH.w rfl rfl (PV.loadW rfl Ag26 rfl rfl) (RH.w rfl rfl (PV.field rfl Fo26_0 rfl) (RH.w rfl rfl (PV.load1 rfl Sc24 rfl (Rd.blk rfl)) (RH.w rfl rfl (PV.len (v := w16) rfl Tryz.underlying24 rfl SlF.o) (RH.w rfl rfl (PV.sub rfl rfl rfl (by omega)) ?_))))
   refine RH.ot rfl rfl (OT.storeW (vs := [_]) rfl Sz26 rfl rfl (Cl.c rfl) rfl rfl (OneC.sl (SlF.o (v := w16)) OneC.nil) (kp ?_))
   refine RH.w rfl rfl (PV.mvI (.inr rfl) rfl) (RH.nil ?_)
   ·exact ⟨rfl, ((xs.length : Int) - 1), rfl, ⟨rfl, trivial⟩, ⟨rfl, trivial⟩, Cv.p⟩
   rintro n τ1 hn
   exact WP.ret ⟨_, _, ResV.two rfl (RV1.cell rfl Ag26 rfl) rfl, Cv.p, k w16 xs n pw18 (by simp only [dTop, ew7, if_neg h1, e16, ew18, if_neg h2, hn, erCls_len]) (by assumption) (s16.mono (by decide)) hx1 hx4⟩
theorem dTop2_s {b : Nat} {cv : Value} {bs : List UInt8} {p : Pl} (hcode : SL G byteT cv bs) (hp : OkP p) (k : ∀ v xs n p', dTop2 bs p = ((erCls xs, n), p') -> OkP p' -> smC 40 (erCls xs) -> 1 <= xs.length -> xs.length <= 4 -> R (.tuple #[vT libT ⟨⟨v, xs⟩⟩, vi n]) G (osl 95 cellT v (xs) :: bagS 109 shapeT (shs (xs)) :: bagS 182 labelT (lbs (xs)) :: bagS 111 instT (ins (xs)) :: sPl b cv p' :: L)) : CallT Tryz.prog 26 #[.pointer (some ⟨b, 0, none⟩)] G (sPl b cv p :: L) R := by
 refine CallT.enter (args := _) Tryz.func26 rfl rfl (by kernel_rfl) rfl ?_
 refine WP.sr ?_
 refine RG.ot rfl (OT.alloc rfl Zr26 fun b2 => ?_)
 refine RG.mr rfl (RG.nil (WP.sr (RG.p (PV.move rfl rfl) ?_)))
 refine RG.callF (vs := [_, _]) rfl rfl En57 rfl (CallT.exB (b := b) (nextP_s hcode (by assumption) (by omega) (fun w13 pw13 ew13 ow13 hw13 => ?_)))
 refine RG.mr rfl (RG.nil (WP.sr (RG.p (PV.build (vs := []) (out := [_]) rfl Zr26 Pl26 trivial rfl) ?_)))
 refine RG.ot rfl (OT.alloc rfl Zr26 fun b5 => ?_)
 refine RG.ot rfl (OT.storeW (vs := [_]) rfl Sz26 rfl rfl (Cl.c rfl) rfl rfl (OneC.c rfl) ?_)
 refine RG.nil (WP.sr (RG.p (PV.build (vs := [(0, [.string _])]) (out := [_, _, _, _]) rfl Zr95 Pl95 ⟨rfl, (Cl.c rfl), trivial⟩ rfl) ?_))
 refine RG.ot rfl (OT.alloc rfl Zr95 fun b6 => ?_)
 refine RG.ot rfl (OT.storeW (vs := [.string _, _, _, _]) rfl Sz95 rfl rfl (Cl.c rfl) rfl rfl (OneC.val rfl (OneC.val rfl (OneC.val rfl (OneC.val rfl OneC.nil)))) ?_)
 refine RG.nil (WP.seq (WP.sr (RG.p (PV.move rfl rfl) ?_)))
 refine RG.callF (vs := [_, _]) rfl rfl En57 rfl (CallT.exB (b := b) (nextP_s hcode (by assumption) (by omega) (fun w17 pw17 ew17 ow17 hw17 => ?_)))
 refine RG.p (PV.add rfl rfl rfl (by omega)) (RG.mr rfl (RG.nil (WP.block ?_)))
 refine WP.cv ((Cv.p (C := blk b6 95 [.string (ByteArray.mk #[97]), .slice none 0 0, .slice none 0 0, .slice none 0 0] :: blk b5 26 [.slice none 0 0] :: blk b2 26 [.slice none 0 0] :: sPl b cv pw17 :: L)).trans (Cv.nilS (e := 109) (F := shapeT))) ?_
 refine WP.loop4 [0, 2, 4, 5, 6] (fun (m : Int) (ss : List Shape) (u1 : Value) (pm : Pl) => (0 <= m ∧ m <= 3) ∧ (ss.length : Int) + m <= 3 ∧ OkP pm ∧ dSh1s bs w13 m.toNat ss pm = dSh1s bs w13 (w17 + 1).toNat [] pw17 ∧ (∀ j, j < ss.length -> -2 <= (gd ss j).layer ∧ (gd ss j).layer <= 9)) (fun (m : Int) (ss : List Shape) (u1 : Value) (pm : Pl) => [(7, vi m)]) (fun (m : Int) (ss : List Shape) (u1 : Value) (pm : Pl) => osl 109 shapeT u1 ss :: blk b6 95 [.string (ByteArray.mk #[97]), u1, .slice none 0 0, .slice none 0 0] :: blk b5 26 [.slice none 0 0] :: blk b2 26 [.slice none 0 0] :: sPl b cv pm :: L) (fun (m : Int) (ss : List Shape) (u1 : Value) (pm : Pl) => m.toNat) (w17 + 1) [] (.slice none 0 0) pw17 ⟨by omega, by simp; omega, by assumption, rfl, fun j hj => by simp at hj⟩ ⟨(by kernel_rfl), trivial⟩ Cv.p ?_
 rintro m ss u1 pm τ1 ⟨g0, g1, g2, g3, g4⟩
 refine WP.seq (WP.sr (RG.ml rfl (RG.p (PV.gtr rfl rfl rfl) (RG.nil ?_))))
 refine WP.cond rfl (fun h1 => ?_) fun h1 => ?_
 ·have h1 := odt h1
  refine WP.skip ?_
  refine WP.cut3 [0, 2, 4, 5, 6, 7] (fun (u2 : Value) (x : Shape) (pn : Pl) => OkP pn ∧ dSh1 bs w13 pm = (x, pn) ∧ (-2 <= x.layer ∧ x.layer <= 9)) (fun (u2 : Value) (x : Shape) (pn : Pl) => []) (fun (u2 : Value) (x : Shape) (pn : Pl) => osl 109 shapeT u2 (ss ++ [x]) :: blk b6 95 [.string (ByteArray.mk #[97]), u2, .slice none 0 0, .slice none 0 0] :: blk b5 26 [.slice none 0 0] :: blk b2 26 [.slice none 0 0] :: sPl b cv pn :: L) ?_ ?_
  refine WP.block ?_
  refine WP.regionHD [.s u1, .b b6, .b b] (.q 0 (.q 2 (.q 3 (.q 7 (.b 1 (.l 4 (.q 5 (.q 6 (.l 8 (.q 9 (.l 10 (.l 11 (.q 12 (.l 13 Sch.nil))))))))) 4 (.q 5 (.q 6 (.b 1 (.l 8 (.q 9 (.l 10 (.l 11 (.q 12 (.l 13 Sch.nil)))))) 8 (.q 9 (.b 1 (.l 10 (.l 11 (.q 12 (.l 13 Sch.nil)))) 10 (.l 1 (.l 11 (.q 12 (.l 13 Sch.nil)))))))))))))) (by kernel_rfl) (by kernel_rfl) (by kernel_rfl) rfl ?_
  refine RH.w rfl rfl (PV.field rfl Fo95_1 rfl) (RH.w rfl rfl (PV.mvI (.inl rfl) rfl) (RH.w rfl rfl (PV.move rfl rfl) (RH.w rfl rfl (PV.move rfl rfl) ?_)))
  ·refine RH.ot2 rfl rfl rfl rfl  (OT.pv (PV.load1 rfl Sc66 rfl (Rd.blk rfl)) (kp ?_)) (OT.callF (vs := [_, _]) rfl En57 rfl (CallT.exB (b := b) (nextP_s hcode (by assumption) (by omega) (fun w27 pw27 ew27 ow27 hw27 => (kp ?_)))))
   ·refine RH.ot rfl rfl (OT.callF (vs := [_, _]) rfl En57 rfl (CallT.exB (b := b) (nextP_s hcode (by assumption) (by omega) (fun w27 pw27 ew27 ow27 hw27 => (kp ?_)))))
    refine RH.w rfl rfl (PV.add rfl rfl rfl (by omega)) (RH.w rfl rfl (PV.rem rfl rfl rfl (by omega) (by omega) (by omega)) ?_)
    refine RH.ot rfl rfl (OT.callF (vs := [_]) rfl En58 rfl (CallT.exB (b := b) (dBox_s hcode (by assumption) (fun w31 pw31 ew31 ow31 => (kp ?_)))))
    refine RH.w rfl rfl (PV.build (vs := [(0, [vi _]), (1, [vi _, vi _, vi _, vi _])]) (out := [_, _, _, _, _]) rfl Zr109 Pl109 ⟨rfl, (Cl.c rfl), ⟨rfl, (Cl.c rfl), trivial⟩⟩ rfl) ?_
    refine RH.ot rfl rfl (OT.bslice (F := shapeT) (els := [⟨_, _⟩]) rfl El66 rfl (by decide) rfl (by decide) ⟨rfl, (Cl.c rfl), trivial⟩ fun v33 => (kp ?_))
    refine RH.ot rfl rfl (OT.append (v := u1) (u := v33) (F := shapeT) rfl El66 rfl (by decide) rfl rfl Rs.o (OneL.c (fun _ => rfl)) rfl (by first | omega | (simp <;> omega)) fun v34 => (kp ?_))
    refine RH.w rfl rfl (PV.field rfl Fo95_1 rfl) ?_
    refine RH.ot rfl rfl (OT.storeB (v := v34) (vs := [_]) (cs' := [_, _, _, _]) rfl Sz66 rfl rfl (Cl.s (v := v34) SlF.o) rfl (OneC.sl SlF.o OneC.nil) rfl rfl (kp ?_))
    refine RH.nil ?_
    exact ⟨rfl, v34, ⟨(w13 + w27) % 8, w31⟩, pw31, ⟨by assumption, by simp only [dSh1, ew27, ew31], by (try simp only); omega⟩, trivial, ⟨(by kernel_rfl), (by kernel_rfl), (by kernel_rfl), (by kernel_rfl), (by kernel_rfl), (by kernel_rfl), trivial⟩, Cv.p⟩
   ·refine RH.w rfl rfl (PV.add rfl rfl rfl (by omega)) ?_
    refine RH.w rfl rfl (PV.rem rfl rfl rfl (by omega) (by omega) (by omega)) ?_
    refine RH.ot2 rfl rfl rfl rfl  (OT.pv (PV.load1 rfl Sc66 rfl (Rd.blk rfl)) (kp ?_)) (OT.callF (vs := [_]) rfl En58 rfl (CallT.exB (b := b) (dBox_s hcode (by assumption) (fun w31 pw31 ew31 ow31 => (kp ?_)))))
    ·refine RH.ot rfl rfl (OT.callF (vs := [_]) rfl En58 rfl (CallT.exB (b := b) (dBox_s hcode (by assumption) (fun w31 pw31 ew31 ow31 => (kp ?_)))))
     refine RH.w rfl rfl (PV.build (vs := [(0, [vi _]), (1, [vi _, vi _, vi _, vi _])]) (out := [_, _, _, _, _]) rfl Zr109 Pl109 ⟨rfl, (Cl.c rfl), ⟨rfl, (Cl.c rfl), trivial⟩⟩ rfl) ?_
     refine RH.ot rfl rfl (OT.bslice (F := shapeT) (els := [⟨_, _⟩]) rfl El66 rfl (by decide) rfl (by decide) ⟨rfl, (Cl.c rfl), trivial⟩ fun v33 => (kp ?_))
     refine RH.ot rfl rfl (OT.append (v := u1) (u := v33) (F := shapeT) rfl El66 rfl (by decide) rfl rfl Rs.o (OneL.c (fun _ => rfl)) rfl (by first | omega | (simp <;> omega)) fun v34 => (kp ?_))
     refine RH.w rfl rfl (PV.field rfl Fo95_1 rfl) ?_
     refine RH.ot rfl rfl (OT.storeB (v := v34) (vs := [_]) (cs' := [_, _, _, _]) rfl Sz66 rfl rfl (Cl.s (v := v34) SlF.o) rfl (OneC.sl SlF.o OneC.nil) rfl rfl (kp ?_))
     refine RH.nil ?_
     exact ⟨rfl, v34, ⟨(w13 + w27) % 8, w31⟩, pw31, ⟨by assumption, by simp only [dSh1, ew27, ew31], by (try simp only); omega⟩, trivial, ⟨(by kernel_rfl), (by kernel_rfl), (by kernel_rfl), (by kernel_rfl), (by kernel_rfl), (by kernel_rfl), trivial⟩, Cv.p⟩
    ·refine RH.w rfl rfl (PV.build (vs := [(0, [vi _]), (1, [vi _, vi _, vi _, vi _])]) (out := [_, _, _, _, _]) rfl Zr109 Pl109 ⟨rfl, (Cl.c rfl), ⟨rfl, (Cl.c rfl), trivial⟩⟩ rfl) ?_
     refine RH.ot2 rfl rfl rfl rfl  (OT.pv (PV.load1 rfl Sc66 rfl (Rd.blk rfl)) (kp ?_)) (OT.bslice (F := shapeT) (els := [⟨_, _⟩]) rfl El66 rfl (by decide) rfl (by decide) ⟨rfl, (Cl.c rfl), trivial⟩ fun v33 => (kp ?_))
     ·refine RH.ot rfl rfl (OT.bslice (F := shapeT) (els := [⟨_, _⟩]) rfl El66 rfl (by decide) rfl (by decide) ⟨rfl, (Cl.c rfl), trivial⟩ fun v33 => (kp ?_))
      refine RH.ot rfl rfl (OT.append (v := u1) (u := v33) (F := shapeT) rfl El66 rfl (by decide) rfl rfl Rs.o (OneL.c (fun _ => rfl)) rfl (by first | omega | (simp <;> omega)) fun v34 => (kp ?_))
      refine RH.w rfl rfl (PV.field rfl Fo95_1 rfl) ?_
      refine RH.ot rfl rfl (OT.storeB (v := v34) (vs := [_]) (cs' := [_, _, _, _]) rfl Sz66 rfl rfl (Cl.s (v := v34) SlF.o) rfl (OneC.sl SlF.o OneC.nil) rfl rfl (kp ?_))
      refine RH.nil ?_
      exact ⟨rfl, v34, ⟨(w13 + w27) % 8, w31⟩, pw31, ⟨by assumption, by simp only [dSh1, ew27, ew31], by (try simp only); omega⟩, trivial, ⟨(by kernel_rfl), (by kernel_rfl), (by kernel_rfl), (by kernel_rfl), (by kernel_rfl), (by kernel_rfl), trivial⟩, Cv.p⟩
     ·refine RH.ot rfl rfl (OT.pv (PV.load1 rfl Sc66 rfl (Rd.blk rfl)) (kp ?_))
      refine RH.ot rfl rfl (OT.append (v := u1) (u := v33) (F := shapeT) rfl El66 rfl (by decide) rfl rfl Rs.o (OneL.c (fun _ => rfl)) rfl (by first | omega | (simp <;> omega)) fun v34 => (kp ?_))
      refine RH.w rfl rfl (PV.field rfl Fo95_1 rfl) ?_
      refine RH.ot rfl rfl (OT.storeB (v := v34) (vs := [_]) (cs' := [_, _, _, _]) rfl Sz66 rfl rfl (Cl.s (v := v34) SlF.o) rfl (OneC.sl SlF.o OneC.nil) rfl rfl (kp ?_))
      refine RH.nil ?_
      exact ⟨rfl, v34, ⟨(w13 + w27) % 8, w31⟩, pw31, ⟨by assumption, by simp only [dSh1, ew27, ew31], by (try simp only); omega⟩, trivial, ⟨(by kernel_rfl), (by kernel_rfl), (by kernel_rfl), (by kernel_rfl), (by kernel_rfl), (by kernel_rfl), trivial⟩, Cv.p⟩
  rintro u2 x pn τ2 ⟨hpn, hdn, hxn⟩
  refine WP.region (RG.ml rfl (RG.p (PV.sub rfl rfl rfl (by omega)) (RG.mr rfl (RG.nil ?_))))
  have hd2 : dSh1s bs w13 (m - 1).toNat (ss ++ [x]) pn = dSh1s bs w13 (w17 + 1).toNat [] pw17 := by
   rw [<- g3, show m.toNat = (m - 1).toNat + 1 by omega, dSh1s, hdn]
  exact ⟨rfl, m - 1, (ss ++ [x]), u2, pn, ⟨by omega, by simp; omega, hpn, hd2, app_lay g4 hxn⟩, ⟨(by kernel_rfl), trivial⟩, ⟨(by kernel_rfl), (by kernel_rfl), (by kernel_rfl), (by kernel_rfl), (by kernel_rfl), trivial⟩, Cv.p, by omega⟩
 ·have h1 := odf h1
  rw [show m.toNat = 0 by omega, dSh1s] at g3
  refine WP.cv ((((Cv.bag0 (e := 111) (F := instT) (xs := ins []) rfl).trans ((Cv.bag0 (e := 182) (F := labelT) (xs := lbs []) rfl).trans ((Cv.bag0 (e := 109) (F := shapeT) (xs := shs []) rfl).trans (Cv.nilS (e := 95) (F := cellT))))))) ?_
  refine WP.exit (WP.sr (RG.p (PV.field rfl Fo26_0 rfl) (RG.p (PV.load1 rfl Sc24 rfl (Rd.blk rfl)) (RG.p (PV.loadW rfl Ag95 rfl rfl) ?_))))
  refine RG.ot rfl (OT.bslice (F := cellT) (els := [⟨ByteArray.mk #[97], ⟨u1, ss⟩, ⟨.slice none 0 0, []⟩, ⟨.slice none 0 0, []⟩⟩]) rfl El24 rfl (by decide) rfl (by decide) ⟨rfl, (Cl.c rfl), trivial⟩ fun v39 => ?_)
  refine RG.ot rfl (OT.append (v := (.slice none 0 0)) (u := v39) (F := cellT) rfl El24 rfl (by decide) rfl rfl Rs.o (OneL.one (OneC.val rfl (OneC.sl (SlF.o (v := u1)) (OneC.val rfl (OneC.val rfl OneC.nil))))) rfl (by first | omega | (simp <;> omega)) fun v40 => ?_)
  refine RG.p (PV.field rfl Fo26_0 rfl) ?_
  refine RG.ot rfl (OT.storeB (v := v40) (vs := [_]) (cs' := [_]) rfl Sz24 rfl rfl (Cl.s (v := v40) SlF.o) rfl (OneC.sl SlF.o OneC.nil) rfl rfl ?_)
  refine RG.nil (WP.sr (RG.p (PV.build (vs := [(0, [.string _])]) (out := [_, _, _, _]) rfl Zr95 Pl95 ⟨rfl, (Cl.c rfl), trivial⟩ rfl) ?_))
  refine RG.ot rfl (OT.alloc rfl Zr95 fun b8 => ?_)
  refine RG.ot rfl (OT.storeW (vs := [.string _, _, _, _]) rfl Sz95 rfl rfl (Cl.c rfl) rfl rfl (OneC.val rfl (OneC.val rfl (OneC.val rfl (OneC.val rfl OneC.nil)))) ?_)
  refine RG.nil (WP.seq (WP.sr (RG.p (PV.move rfl rfl) ?_)))
  refine RG.callF (vs := [_, _]) rfl rfl En57 rfl (CallT.exB (b := b) (nextP_s hcode (by assumption) (by omega) (fun w44 pw44 ew44 ow44 hw44 => ?_)))
  refine RG.mr rfl (RG.nil (WP.block ?_))
  refine WP.cv (((Cv.p (C := osl 109 shapeT u1 ss :: osl 95 cellT v40 ([] ++ [⟨ByteArray.mk #[97], ⟨u1, ss⟩, ⟨.slice none 0 0, []⟩, ⟨.slice none 0 0, []⟩⟩]) :: bagS 109 shapeT (shs []) :: bagS 182 labelT (lbs []) :: bagS 111 instT (ins []) :: blk b8 95 [.string (ByteArray.mk #[98]), .slice none 0 0, .slice none 0 0, .slice none 0 0] :: blk b5 26 [v40] :: blk b2 26 [.slice none 0 0] :: sPl b cv pw44 :: L)).trans ((Cv.nilS (e := 111) (F := instT)).trans ((Cv.nilS (e := 182) (F := labelT)).trans ((Cv.p (C := osl 109 shapeT u1 ss :: osl 182 labelT (.slice none 0 0) [] :: osl 111 instT (.slice none 0 0) [] :: osl 95 cellT v40 ([] ++ [⟨ByteArray.mk #[97], ⟨u1, ss⟩, ⟨.slice none 0 0, []⟩, ⟨.slice none 0 0, []⟩⟩]) :: bagS 109 shapeT (shs []) :: bagS 182 labelT (lbs []) :: bagS 111 instT (ins []) :: blk b8 95 [.string (ByteArray.mk #[98]), .slice none 0 0, .slice none 0 0, .slice none 0 0] :: blk b5 26 [v40] :: blk b2 26 [.slice none 0 0] :: sPl b cv pw44 :: L)).trans (Cv.cellNew3.trans (Cv.nilS (e := 109) (F := shapeT)))))))) ?_
  refine WP.loop4 [0, 2, 4, 5, 8] (fun (m2 : Int) (s2 : List Shape) (u2 : Value) (pm2 : Pl) => (0 <= m2 ∧ m2 <= 3) ∧ (s2.length : Int) + m2 <= 3 ∧ OkP pm2 ∧ dSh1s bs w13 m2.toNat s2 pm2 = dSh1s bs w13 w44.toNat [] pw44 ∧ (∀ j, j < s2.length -> -2 <= (gd s2 j).layer ∧ (gd s2 j).layer <= 9)) (fun (m2 : Int) (s2 : List Shape) (u2 : Value) (pm2 : Pl) => [(9, vi m2)]) (fun (m2 : Int) (s2 : List Shape) (u2 : Value) (pm2 : Pl) => osl 109 shapeT u2 s2 :: blk b8 95 [.string (ByteArray.mk #[98]), u2, .slice none 0 0, .slice none 0 0] :: osl 95 cellT v40 (([] ++ [⟨ByteArray.mk #[97], ⟨u1, ss⟩, ⟨.slice none 0 0, []⟩, ⟨.slice none 0 0, []⟩⟩])) :: bagS 109 shapeT (shs (([] ++ [⟨ByteArray.mk #[97], ⟨u1, ss⟩, ⟨.slice none 0 0, []⟩, ⟨.slice none 0 0, []⟩⟩]))) :: bagS 182 labelT (lbs (([] ++ [⟨ByteArray.mk #[97], ⟨u1, ss⟩, ⟨.slice none 0 0, []⟩, ⟨.slice none 0 0, []⟩⟩]))) :: bagS 111 instT (ins (([] ++ [⟨ByteArray.mk #[97], ⟨u1, ss⟩, ⟨.slice none 0 0, []⟩, ⟨.slice none 0 0, []⟩⟩]))) :: blk b5 26 [v40] :: blk b2 26 [.slice none 0 0] :: sPl b cv pm2 :: L) (fun (m2 : Int) (s2 : List Shape) (u2 : Value) (pm2 : Pl) => m2.toNat) w44 [] (.slice none 0 0) pw44 ⟨by omega, by simp; omega, by assumption, rfl, fun j hj => by simp at hj⟩ ⟨(by kernel_rfl), trivial⟩ Cv.p ?_
  rintro m2 s2 u2 pm2 τ3 ⟨j0, j1, j2, j3, j4⟩
  refine WP.seq (WP.sr (RG.ml rfl (RG.p (PV.gtr rfl rfl rfl) (RG.nil ?_))))
  refine WP.cond rfl (fun h2 => ?_) fun h2 => ?_
  ·have h2 := odt h2
   refine WP.skip ?_
   refine WP.cut3 [0, 2, 4, 5, 8, 9] (fun (u4 : Value) (x : Shape) (pn : Pl) => OkP pn ∧ dSh1 bs w13 pm2 = (x, pn) ∧ (-2 <= x.layer ∧ x.layer <= 9)) (fun (u4 : Value) (x : Shape) (pn : Pl) => []) (fun (u4 : Value) (x : Shape) (pn : Pl) => osl 109 shapeT u4 (s2 ++ [x]) :: blk b8 95 [.string (ByteArray.mk #[98]), u4, .slice none 0 0, .slice none 0 0] :: osl 95 cellT v40 (([] ++ [⟨ByteArray.mk #[97], ⟨u1, ss⟩, ⟨.slice none 0 0, []⟩, ⟨.slice none 0 0, []⟩⟩])) :: bagS 109 shapeT (shs (([] ++ [⟨ByteArray.mk #[97], ⟨u1, ss⟩, ⟨.slice none 0 0, []⟩, ⟨.slice none 0 0, []⟩⟩]))) :: bagS 182 labelT (lbs (([] ++ [⟨ByteArray.mk #[97], ⟨u1, ss⟩, ⟨.slice none 0 0, []⟩, ⟨.slice none 0 0, []⟩⟩]))) :: bagS 111 instT (ins (([] ++ [⟨ByteArray.mk #[97], ⟨u1, ss⟩, ⟨.slice none 0 0, []⟩, ⟨.slice none 0 0, []⟩⟩]))) :: blk b5 26 [v40] :: blk b2 26 [.slice none 0 0] :: sPl b cv pn :: L) ?_ ?_
   refine WP.block ?_
   refine WP.regionHD [.s u2, .b b8, .b b] (.q 0 (.q 2 (.q 3 (.q 7 (.b 1 (.l 4 (.q 5 (.q 6 (.l 8 (.q 9 (.l 10 (.l 11 (.q 12 (.l 13 Sch.nil))))))))) 4 (.q 5 (.q 6 (.b 1 (.l 8 (.q 9 (.l 10 (.l 11 (.q 12 (.l 13 Sch.nil)))))) 8 (.q 9 (.b 1 (.l 10 (.l 11 (.q 12 (.l 13 Sch.nil)))) 10 (.l 1 (.l 11 (.q 12 (.l 13 Sch.nil)))))))))))))) (by kernel_rfl) (by kernel_rfl) (by kernel_rfl) rfl ?_
   refine RH.w rfl rfl (PV.field rfl Fo95_1 rfl) (RH.w rfl rfl (PV.mvI (.inl rfl) rfl) (RH.w rfl rfl (PV.move rfl rfl) (RH.w rfl rfl (PV.move rfl rfl) ?_)))
   ·refine RH.ot2 rfl rfl rfl rfl  (OT.pv (PV.load1 rfl Sc66 rfl (Rd.blk rfl)) (kp ?_)) (OT.callF (vs := [_, _]) rfl En57 rfl (CallT.exB (b := b) (nextP_s hcode (by assumption) (by omega) (fun w53 pw53 ew53 ow53 hw53 => (kp ?_)))))
    ·refine RH.ot rfl rfl (OT.callF (vs := [_, _]) rfl En57 rfl (CallT.exB (b := b) (nextP_s hcode (by assumption) (by omega) (fun w53 pw53 ew53 ow53 hw53 => (kp ?_)))))
     refine RH.w rfl rfl (PV.add rfl rfl rfl (by omega)) (RH.w rfl rfl (PV.rem rfl rfl rfl (by omega) (by omega) (by omega)) ?_)
     refine RH.ot rfl rfl (OT.callF (vs := [_]) rfl En58 rfl (CallT.exB (b := b) (dBox_s hcode (by assumption) (fun w57 pw57 ew57 ow57 => (kp ?_)))))
     refine RH.w rfl rfl (PV.build (vs := [(0, [vi _]), (1, [vi _, vi _, vi _, vi _])]) (out := [_, _, _, _, _]) rfl Zr109 Pl109 ⟨rfl, (Cl.c rfl), ⟨rfl, (Cl.c rfl), trivial⟩⟩ rfl) ?_
     refine RH.ot rfl rfl (OT.bslice (F := shapeT) (els := [⟨_, _⟩]) rfl El66 rfl (by decide) rfl (by decide) ⟨rfl, (Cl.c rfl), trivial⟩ fun v59 => (kp ?_))
     refine RH.ot rfl rfl (OT.append (v := u2) (u := v59) (F := shapeT) rfl El66 rfl (by decide) rfl rfl Rs.o (OneL.c (fun _ => rfl)) rfl (by first | omega | (simp <;> omega)) fun v60 => (kp ?_))
     refine RH.w rfl rfl (PV.field rfl Fo95_1 rfl) ?_
     refine RH.ot rfl rfl (OT.storeB (v := v60) (vs := [_]) (cs' := [_, _, _, _]) rfl Sz66 rfl rfl (Cl.s (v := v60) SlF.o) rfl (OneC.sl SlF.o OneC.nil) rfl rfl (kp ?_))
     refine RH.nil ?_
     exact ⟨rfl, v60, ⟨(w13 + w53) % 8, w57⟩, pw57, ⟨by assumption, by simp only [dSh1, ew53, ew57], by (try simp only); omega⟩, trivial, ⟨(by kernel_rfl), (by kernel_rfl), (by kernel_rfl), (by kernel_rfl), (by kernel_rfl), (by kernel_rfl), trivial⟩, Cv.p⟩
    ·refine RH.w rfl rfl (PV.add rfl rfl rfl (by omega)) ?_
     refine RH.w rfl rfl (PV.rem rfl rfl rfl (by omega) (by omega) (by omega)) ?_
     refine RH.ot2 rfl rfl rfl rfl  (OT.pv (PV.load1 rfl Sc66 rfl (Rd.blk rfl)) (kp ?_)) (OT.callF (vs := [_]) rfl En58 rfl (CallT.exB (b := b) (dBox_s hcode (by assumption) (fun w57 pw57 ew57 ow57 => (kp ?_)))))
     ·refine RH.ot rfl rfl (OT.callF (vs := [_]) rfl En58 rfl (CallT.exB (b := b) (dBox_s hcode (by assumption) (fun w57 pw57 ew57 ow57 => (kp ?_)))))
      refine RH.w rfl rfl (PV.build (vs := [(0, [vi _]), (1, [vi _, vi _, vi _, vi _])]) (out := [_, _, _, _, _]) rfl Zr109 Pl109 ⟨rfl, (Cl.c rfl), ⟨rfl, (Cl.c rfl), trivial⟩⟩ rfl) ?_
      refine RH.ot rfl rfl (OT.bslice (F := shapeT) (els := [⟨_, _⟩]) rfl El66 rfl (by decide) rfl (by decide) ⟨rfl, (Cl.c rfl), trivial⟩ fun v59 => (kp ?_))
      refine RH.ot rfl rfl (OT.append (v := u2) (u := v59) (F := shapeT) rfl El66 rfl (by decide) rfl rfl Rs.o (OneL.c (fun _ => rfl)) rfl (by first | omega | (simp <;> omega)) fun v60 => (kp ?_))
      refine RH.w rfl rfl (PV.field rfl Fo95_1 rfl) ?_
      refine RH.ot rfl rfl (OT.storeB (v := v60) (vs := [_]) (cs' := [_, _, _, _]) rfl Sz66 rfl rfl (Cl.s (v := v60) SlF.o) rfl (OneC.sl SlF.o OneC.nil) rfl rfl (kp ?_))
      refine RH.nil ?_
      exact ⟨rfl, v60, ⟨(w13 + w53) % 8, w57⟩, pw57, ⟨by assumption, by simp only [dSh1, ew53, ew57], by (try simp only); omega⟩, trivial, ⟨(by kernel_rfl), (by kernel_rfl), (by kernel_rfl), (by kernel_rfl), (by kernel_rfl), (by kernel_rfl), trivial⟩, Cv.p⟩
     ·refine RH.w rfl rfl (PV.build (vs := [(0, [vi _]), (1, [vi _, vi _, vi _, vi _])]) (out := [_, _, _, _, _]) rfl Zr109 Pl109 ⟨rfl, (Cl.c rfl), ⟨rfl, (Cl.c rfl), trivial⟩⟩ rfl) ?_
      refine RH.ot2 rfl rfl rfl rfl  (OT.pv (PV.load1 rfl Sc66 rfl (Rd.blk rfl)) (kp ?_)) (OT.bslice (F := shapeT) (els := [⟨_, _⟩]) rfl El66 rfl (by decide) rfl (by decide) ⟨rfl, (Cl.c rfl), trivial⟩ fun v59 => (kp ?_))
      ·refine RH.ot rfl rfl (OT.bslice (F := shapeT) (els := [⟨_, _⟩]) rfl El66 rfl (by decide) rfl (by decide) ⟨rfl, (Cl.c rfl), trivial⟩ fun v59 => (kp ?_))
       refine RH.ot rfl rfl (OT.append (v := u2) (u := v59) (F := shapeT) rfl El66 rfl (by decide) rfl rfl Rs.o (OneL.c (fun _ => rfl)) rfl (by first | omega | (simp <;> omega)) fun v60 => (kp ?_))
       refine RH.w rfl rfl (PV.field rfl Fo95_1 rfl) ?_
       refine RH.ot rfl rfl (OT.storeB (v := v60) (vs := [_]) (cs' := [_, _, _, _]) rfl Sz66 rfl rfl (Cl.s (v := v60) SlF.o) rfl (OneC.sl SlF.o OneC.nil) rfl rfl (kp ?_))
       refine RH.nil ?_
       exact ⟨rfl, v60, ⟨(w13 + w53) % 8, w57⟩, pw57, ⟨by assumption, by simp only [dSh1, ew53, ew57], by (try simp only); omega⟩, trivial, ⟨(by kernel_rfl), (by kernel_rfl), (by kernel_rfl), (by kernel_rfl), (by kernel_rfl), (by kernel_rfl), trivial⟩, Cv.p⟩
      ·refine RH.ot rfl rfl (OT.pv (PV.load1 rfl Sc66 rfl (Rd.blk rfl)) (kp ?_))
       refine RH.ot rfl rfl (OT.append (v := u2) (u := v59) (F := shapeT) rfl El66 rfl (by decide) rfl rfl Rs.o (OneL.c (fun _ => rfl)) rfl (by first | omega | (simp <;> omega)) fun v60 => (kp ?_))
       refine RH.w rfl rfl (PV.field rfl Fo95_1 rfl) ?_
       refine RH.ot rfl rfl (OT.storeB (v := v60) (vs := [_]) (cs' := [_, _, _, _]) rfl Sz66 rfl rfl (Cl.s (v := v60) SlF.o) rfl (OneC.sl SlF.o OneC.nil) rfl rfl (kp ?_))
       refine RH.nil ?_
       exact ⟨rfl, v60, ⟨(w13 + w53) % 8, w57⟩, pw57, ⟨by assumption, by simp only [dSh1, ew53, ew57], by (try simp only); omega⟩, trivial, ⟨(by kernel_rfl), (by kernel_rfl), (by kernel_rfl), (by kernel_rfl), (by kernel_rfl), (by kernel_rfl), trivial⟩, Cv.p⟩
   rintro u4 x pn τ4 ⟨hpn, hdn, hxn⟩
   refine WP.region (RG.ml rfl (RG.p (PV.sub rfl rfl rfl (by omega)) (RG.mr rfl (RG.nil ?_))))
   have hd2 : dSh1s bs w13 (m2 - 1).toNat (s2 ++ [x]) pn = dSh1s bs w13 w44.toNat [] pw44 := by
    rw [<- j3, show m2.toNat = (m2 - 1).toNat + 1 by omega, dSh1s, hdn]
   exact ⟨rfl, m2 - 1, (s2 ++ [x]), u4, pn, ⟨by omega, by simp; omega, hpn, hd2, app_lay j4 hxn⟩, ⟨(by kernel_rfl), trivial⟩, ⟨(by kernel_rfl), (by kernel_rfl), (by kernel_rfl), (by kernel_rfl), (by kernel_rfl), trivial⟩, Cv.p, by omega⟩
  ·have h2 := odf h2
   rw [show m2.toNat = 0 by omega, dSh1s] at j3
   refine WP.cv (Cv.nilS (e := 111) (F := instT)) ?_
   refine WP.exit (WP.seq (WP.sr (RG.p (PV.move rfl rfl) ?_)))
   refine RG.callF (vs := [_, _]) rfl rfl En57 rfl (CallT.exB (b := b) (nextP_s hcode (by assumption) (by omega) (fun w63 pw63 ew63 ow63 hw63 => ?_)))
   refine RG.p (PV.add rfl rfl rfl (by omega)) (RG.mr rfl (RG.nil (WP.block ?_)))
   refine WP.loop4 [0, 2, 5, 8] (fun (m3 : Int) (ns : List Inst) (u3 : Value) (pm3 : Pl) => (0 <= m3 ∧ m3 <= 3) ∧ (ns.length : Int) + m3 <= 3 ∧ OkP pm3 ∧ dIn1s bs m3.toNat ns pm3 = dIn1s bs (w63 + 1).toNat [] pw63) (fun (m3 : Int) (ns : List Inst) (u3 : Value) (pm3 : Pl) => [(10, vi m3)]) (fun (m3 : Int) (ns : List Inst) (u3 : Value) (pm3 : Pl) => osl 111 instT u3 ns :: osl 109 shapeT u2 s2 :: blk b8 95 [.string (ByteArray.mk #[98]), u2, .slice none 0 0, u3] :: osl 95 cellT v40 (([] ++ [⟨ByteArray.mk #[97], ⟨u1, ss⟩, ⟨.slice none 0 0, []⟩, ⟨.slice none 0 0, []⟩⟩])) :: bagS 109 shapeT (shs (([] ++ [⟨ByteArray.mk #[97], ⟨u1, ss⟩, ⟨.slice none 0 0, []⟩, ⟨.slice none 0 0, []⟩⟩]))) :: bagS 182 labelT (lbs (([] ++ [⟨ByteArray.mk #[97], ⟨u1, ss⟩, ⟨.slice none 0 0, []⟩, ⟨.slice none 0 0, []⟩⟩]))) :: bagS 111 instT (ins (([] ++ [⟨ByteArray.mk #[97], ⟨u1, ss⟩, ⟨.slice none 0 0, []⟩, ⟨.slice none 0 0, []⟩⟩]))) :: blk b5 26 [v40] :: blk b2 26 [.slice none 0 0] :: sPl b cv pm3 :: L) (fun (m3 : Int) (ns : List Inst) (u3 : Value) (pm3 : Pl) => m3.toNat) (w63 + 1) [] (.slice none 0 0) pw63 ⟨by omega, by simp; omega, by assumption, rfl⟩ ⟨(by kernel_rfl), trivial⟩ Cv.p ?_
   rintro m3 ns u3 pm3 τ5 ⟨l0, l1, l2, l3⟩
   refine WP.seq (WP.sr (RG.ml rfl (RG.p (PV.gtr rfl rfl rfl) (RG.nil ?_))))
   refine WP.cond rfl (fun h3 => ?_) fun h3 => ?_
   ·have h3 := odt h3
    refine WP.skip (WP.seq (WP.block (WP.sr (RG.p (PV.move rfl rfl) ?_))))
    refine RG.callF (vs := [_, _]) rfl rfl En57 rfl (CallT.exB (b := b) (nextP_s hcode (by assumption) (by omega) (fun w70 pw70 ew70 ow70 hw70 => ?_)))
    refine RG.p (PV.move rfl rfl) ?_
    refine RG.callF (vs := [_, _]) rfl rfl En57 rfl (CallT.exB (b := b) (nextP_s hcode (by assumption) (by omega) (fun w72 pw72 ew72 ow72 hw72 => ?_)))
    refine RG.p (PV.sub rfl rfl rfl (by omega)) (RG.p (PV.move rfl rfl) ?_)
    refine RG.callF (vs := [_, _]) rfl rfl En57 rfl (CallT.exB (b := b) (nextP_s hcode (by assumption) (by omega) (fun w75 pw75 ew75 ow75 hw75 => ?_)))
    refine RG.p (PV.sub rfl rfl rfl (by omega)) (RG.p (PV.build (vs := [(0, [vi _]), (1, [vi _]), (2, [vi _])]) (out := [_, _, _]) rfl Zr87 Pl87 ⟨rfl, (Cl.c rfl), ⟨rfl, (Cl.c rfl), ⟨rfl, (Cl.c rfl), trivial⟩⟩⟩ rfl) (RG.p (PV.build (vs := [(1, [vi _, vi _, vi _]), (2, [vi _]), (3, [vi _])]) (out := [_, _, _, _, _, _, _, _]) rfl Zr111 Pl111 ⟨rfl, (Cl.c rfl), ⟨rfl, (Cl.c rfl), ⟨rfl, (Cl.c rfl), trivial⟩⟩⟩ rfl) ?_))
    refine RG.ot rfl (OT.alloc rfl Zr111 fun b11 => ?_)
    refine RG.ot rfl (OT.storeW (vs := [vi _, vi _, vi _, vi _, vi _, vi _, vi _, vi _]) rfl Sz111 rfl rfl (Cl.c rfl) rfl rfl (OneC.c rfl) ?_)
    refine RG.nil ?_
    refine WP.cut2 [0, 2, 5, 8, 10, 11] (fun (y : Inst) (pn : Pl) => OkP pn ∧ dIn1 bs pm3 = (y, pn)) (fun (y : Inst) (pn : Pl) => []) (fun (y : Inst) (pn : Pl) => blk b11 111 (instT.enc y) :: osl 111 instT u3 ns :: osl 109 shapeT u2 s2 :: blk b8 95 [.string (ByteArray.mk #[98]), u2, .slice none 0 0, u3] :: osl 95 cellT v40 (([] ++ [⟨ByteArray.mk #[97], ⟨u1, ss⟩, ⟨.slice none 0 0, []⟩, ⟨.slice none 0 0, []⟩⟩])) :: bagS 109 shapeT (shs (([] ++ [⟨ByteArray.mk #[97], ⟨u1, ss⟩, ⟨.slice none 0 0, []⟩, ⟨.slice none 0 0, []⟩⟩]))) :: bagS 182 labelT (lbs (([] ++ [⟨ByteArray.mk #[97], ⟨u1, ss⟩, ⟨.slice none 0 0, []⟩, ⟨.slice none 0 0, []⟩⟩]))) :: bagS 111 instT (ins (([] ++ [⟨ByteArray.mk #[97], ⟨u1, ss⟩, ⟨.slice none 0 0, []⟩, ⟨.slice none 0 0, []⟩⟩]))) :: blk b5 26 [v40] :: blk b2 26 [.slice none 0 0] :: sPl b cv pn :: L) ?_ ?_
    refine WP.sr (RG.p (PV.move rfl rfl) ?_)
    refine RG.callF (vs := [_, _]) rfl rfl En57 rfl (CallT.exB (b := b) (nextP_s hcode (by assumption) (by omega) (fun w80 pw80 ew80 ow80 hw80 => ?_)))
    refine RG.p (PV.eql rfl rfl rfl) (RG.nil ?_)
    ·refine WP.cond rfl (fun h4 => ?_) fun h4 => ?_
     ·have h4 := odt h4
      refine WP.sr (RG.p (PV.field rfl Fo111_2 rfl) ?_)
      refine RG.ot rfl (OT.storeB (vs := [vi _]) (cs' := [_, _, _, _, _, _, _, _]) rfl Sz2 rfl rfl (Cl.c rfl) rfl (OneC.c rfl) rfl rfl ?_)
      refine RG.nil (WP.region (RG.p (PV.move rfl rfl) ?_))
      refine RG.callF (vs := [_, _]) rfl rfl En57 rfl (CallT.exB (b := b) (nextP_s hcode (by assumption) (by omega) (fun w84 pw84 ew84 ow84 hw84 => ?_)))
      refine RG.p (PV.sub rfl rfl rfl (by omega)) (RG.p (PV.field rfl Fo111_4 rfl) ?_)
      refine RG.ot rfl (OT.storeB (vs := [vi _]) (cs' := [_, _, _, _, _, _, _, _]) rfl Sz2 rfl rfl (Cl.c rfl) rfl (OneC.c rfl) rfl rfl ?_)
      refine RG.nil ?_
      exact ⟨rfl, ⟨0, ⟨w70, w72 - 25, w75 - 25⟩, 2, 1, w84 - 15, 0⟩, pw84, ⟨by assumption, by simp only [dIn1, ew70, ew72, ew75, ew80, h4, if_true, ew84]⟩, trivial, ⟨(by kernel_rfl), (by kernel_rfl), (by kernel_rfl), (by kernel_rfl), (by kernel_rfl), (by kernel_rfl), trivial⟩, Cv.p⟩
     ·have h4 := odf h4
      refine WP.skip ?_
      exact ⟨rfl, ⟨0, ⟨w70, w72 - 25, w75 - 25⟩, 1, 1, 0, 0⟩, pw80, ⟨by assumption, by simp only [dIn1, ew70, ew72, ew75, ew80, if_neg h4]⟩, trivial, ⟨(by kernel_rfl), (by kernel_rfl), (by kernel_rfl), (by kernel_rfl), (by kernel_rfl), (by kernel_rfl), trivial⟩, Cv.p⟩
    rintro y pn τ6 ⟨hpn, hdn⟩
    refine WP.region (RG.p (PV.field rfl Fo95_3 rfl) (RG.p (PV.load1 rfl Sc93 rfl (Rd.blk rfl)) (RG.p (PV.loadW rfl Ag111 rfl rfl) ?_)))
    refine RG.ot rfl (OT.bslice (F := instT) (els := [⟨_, _, _, _, _, _⟩]) rfl El93 rfl (by decide) rfl (by decide) ⟨rfl, (Cl.c rfl), trivial⟩ fun v90 => ?_)
    refine RG.ot rfl (OT.append (v := u3) (u := v90) (F := instT) rfl El93 rfl (by decide) rfl rfl Rs.o (OneL.c (fun _ => rfl)) rfl (by first | omega | (simp <;> omega)) fun v91 => ?_)
    refine RG.p (PV.field rfl Fo95_3 rfl) ?_
    refine RG.ot rfl (OT.storeB (v := v91) (vs := [_]) (cs' := [_, _, _, _]) rfl Sz93 rfl rfl (Cl.s (v := v91) SlF.o) rfl (OneC.sl SlF.o OneC.nil) rfl rfl ?_)
    refine RG.nil (WP.region (RG.ml rfl (RG.p (PV.sub rfl rfl rfl (by omega)) (RG.mr rfl (RG.nil ?_)))))
    have hd2 : dIn1s bs (m3 - 1).toNat (ns ++ [y]) pn = dIn1s bs (w63 + 1).toNat [] pw63 := by
     rw [<- l3, show m3.toNat = (m3 - 1).toNat + 1 by omega, dIn1s, hdn]
    exact ⟨rfl, m3 - 1, (ns ++ [y]), v91, pn, ⟨by omega, by simp; omega, hpn, hd2⟩, ⟨(by kernel_rfl), trivial⟩, ⟨(by kernel_rfl), (by kernel_rfl), (by kernel_rfl), (by kernel_rfl), trivial⟩, Cv.p, by omega⟩
   ·have h3 := odf h3
    rw [show m3.toNat = 0 by omega, dIn1s] at l3
    refine WP.exit (WP.sr (RG.p (PV.field rfl Fo26_0 rfl) (RG.p (PV.load1 rfl Sc24 rfl (Rd.blk rfl)) (RG.p (PV.loadW rfl Ag95 rfl rfl) ?_))))
    refine RG.ot rfl (OT.bslice (F := cellT) (els := [⟨ByteArray.mk #[98], ⟨u2, s2⟩, ⟨.slice none 0 0, []⟩, ⟨u3, ns⟩⟩]) rfl El24 rfl (by decide) rfl (by decide) ⟨rfl, (Cl.c rfl), trivial⟩ fun v96 => ?_)
    refine RG.ot rfl (OT.append (v := v40) (u := v96) (F := cellT) rfl El24 rfl (by decide) rfl rfl Rs.o (OneL.one (OneC.val rfl (OneC.sl (SlF.o (v := u2)) (OneC.val rfl (OneC.sl (SlF.o (v := u3)) OneC.nil))))) rfl (by first | omega | (simp <;> omega)) fun v97 => ?_)
    refine RG.p (PV.field rfl Fo26_0 rfl) ?_
    refine RG.ot rfl (OT.storeB (v := v97) (vs := [_]) (cs' := [_]) rfl Sz24 rfl rfl (Cl.s (v := v97) SlF.o) rfl (OneC.sl SlF.o OneC.nil) rfl rfl ?_)
    refine RG.nil (WP.seq (WP.sr (RG.p (PV.move rfl rfl) ?_)))
    refine RG.callF (vs := [_, _]) rfl rfl En57 rfl (CallT.exB (b := b) (nextP_s hcode (by assumption) (by omega) (fun w100 pw100 ew100 ow100 hw100 => ?_)))
    refine RG.p (PV.eql rfl rfl rfl) (RG.nil ?_)
    refine WP.cv (((Cv.p (C := osl 109 shapeT u2 s2 :: osl 111 instT u3 ns :: osl 95 cellT v97 (([] ++ [⟨ByteArray.mk #[97], ⟨u1, ss⟩, ⟨.slice none 0 0, []⟩, ⟨.slice none 0 0, []⟩⟩]) ++ [⟨ByteArray.mk #[98], ⟨u2, s2⟩, ⟨.slice none 0 0, []⟩, ⟨u3, ns⟩⟩]) :: bagS 109 shapeT (shs ([] ++ [⟨ByteArray.mk #[97], ⟨u1, ss⟩, ⟨.slice none 0 0, []⟩, ⟨.slice none 0 0, []⟩⟩])) :: bagS 182 labelT (lbs ([] ++ [⟨ByteArray.mk #[97], ⟨u1, ss⟩, ⟨.slice none 0 0, []⟩, ⟨.slice none 0 0, []⟩⟩])) :: bagS 111 instT (ins ([] ++ [⟨ByteArray.mk #[97], ⟨u1, ss⟩, ⟨.slice none 0 0, []⟩, ⟨.slice none 0 0, []⟩⟩])) :: blk b5 26 [v97] :: blk b2 26 [.slice none 0 0] :: sPl b cv pw100 :: L)).trans ((Cv.nilS (e := 182) (F := labelT)).trans ((Cv.p (C := osl 109 shapeT u2 s2 :: osl 182 labelT (.slice none 0 0) [] :: osl 111 instT u3 ns :: osl 95 cellT v97 (([] ++ [⟨ByteArray.mk #[97], ⟨u1, ss⟩, ⟨.slice none 0 0, []⟩, ⟨.slice none 0 0, []⟩⟩]) ++ [⟨ByteArray.mk #[98], ⟨u2, s2⟩, ⟨.slice none 0 0, []⟩, ⟨u3, ns⟩⟩]) :: bagS 109 shapeT (shs ([] ++ [⟨ByteArray.mk #[97], ⟨u1, ss⟩, ⟨.slice none 0 0, []⟩, ⟨.slice none 0 0, []⟩⟩])) :: bagS 182 labelT (lbs ([] ++ [⟨ByteArray.mk #[97], ⟨u1, ss⟩, ⟨.slice none 0 0, []⟩, ⟨.slice none 0 0, []⟩⟩])) :: bagS 111 instT (ins ([] ++ [⟨ByteArray.mk #[97], ⟨u1, ss⟩, ⟨.slice none 0 0, []⟩, ⟨.slice none 0 0, []⟩⟩])) :: blk b5 26 [v97] :: blk b2 26 [.slice none 0 0] :: sPl b cv pw100 :: L)).trans Cv.cellNew3)))) ?_
    refine WP.cond rfl (fun h5 => ?_) fun h5 => ?_
    ·have h5 := odt h5
     refine WP.sr (RG.p (PV.move rfl rfl) ?_)
     refine RG.callF (vs := [_]) rfl rfl En59 rfl (CallT.exB (b := b) (dTop_s hcode (by assumption) (fun w103 xs2 n103 p103 e103 o103 s103 hx1 hx4 => ?_)))
     refine RG.p (PV.ext rfl rfl rfl) (RG.p (PV.ext rfl rfl rfl) ?_)
     refine RG.ot rfl (OT.storeW (vs := [_]) rfl Sz26 rfl rfl (Cl.c rfl) rfl rfl (OneC.sl (SlF.o (v := w103)) OneC.nil) ?_)
     refine RG.mr rfl (RG.nil ?_)
     exact WP.ret ⟨_, _, ResV.two rfl (RV1.cell rfl Ag26 rfl) rfl, Cv.p, k w103 xs2 n103 p103 (by simp only [dTop2, ew13, ew17, <- g3, ew44, <- j3, ew63, <- l3, ew100, h5, if_true, e103]) o103 s103 hx1 hx4⟩
    ·have h5 := odf h5
     have hlen2 : List.length (α := Cell) (([] ++ [⟨ByteArray.mk #[97], ⟨u1, ss⟩, ⟨.slice none 0 0, []⟩, ⟨.slice none 0 0, []⟩⟩]) ++ [⟨ByteArray.mk #[98], ⟨u2, s2⟩, ⟨.slice none 0 0, []⟩, ⟨u3, ns⟩⟩]) = 2 := rfl
     refine WP.skip ?_
     refine WP.cut1 [2] (fun (n : Int) => n = 1) (fun (n : Int) => [(3, vi n)]) (fun (n : Int) => osl 95 cellT v97 ((([] ++ [⟨ByteArray.mk #[97], ⟨u1, ss⟩, ⟨.slice none 0 0, []⟩, ⟨.slice none 0 0, []⟩⟩]) ++ [⟨ByteArray.mk #[98], ⟨u2, s2⟩, ⟨.slice none 0 0, []⟩, ⟨u3, ns⟩⟩])) :: bagS 109 shapeT (shs ((([] ++ [⟨ByteArray.mk #[97], ⟨u1, ss⟩, ⟨.slice none 0 0, []⟩, ⟨.slice none 0 0, []⟩⟩]) ++ [⟨ByteArray.mk #[98], ⟨u2, s2⟩, ⟨.slice none 0 0, []⟩, ⟨u3, ns⟩⟩]))) :: bagS 182 labelT (lbs ((([] ++ [⟨ByteArray.mk #[97], ⟨u1, ss⟩, ⟨.slice none 0 0, []⟩, ⟨.slice none 0 0, []⟩⟩]) ++ [⟨ByteArray.mk #[98], ⟨u2, s2⟩, ⟨.slice none 0 0, []⟩, ⟨u3, ns⟩⟩]))) :: bagS 111 instT (ins ((([] ++ [⟨ByteArray.mk #[97], ⟨u1, ss⟩, ⟨.slice none 0 0, []⟩, ⟨.slice none 0 0, []⟩⟩]) ++ [⟨ByteArray.mk #[98], ⟨u2, s2⟩, ⟨.slice none 0 0, []⟩, ⟨u3, ns⟩⟩]))) :: blk b5 26 [v97] :: blk b2 26 [v97] :: sPl b cv pw100 :: L) ?_ ?_
     refine WP.regionHD [.b b2] (.q 0 (.q 1 (.q 2 (.q 3 (.q 4 (.l 5 (.q 6 Sch.nil))))))) (by kernel_rfl) (by kernel_rfl) (by kernel_rfl) rfl ?_
     refine RH.w rfl rfl (PV.loadW rfl Ag26 rfl rfl) (RH.w rfl rfl (PV.field rfl Fo26_0 rfl) (RH.w rfl rfl (PV.load1 rfl Sc24 rfl (Rd.blk rfl)) (RH.w rfl rfl (PV.len (v := v97) rfl Tryz.underlying24 rfl SlF.o) (RH.w rfl rfl (PV.sub rfl rfl rfl (by omega)) ?_))))
     refine RH.ot rfl rfl (OT.storeW (vs := [_]) rfl Sz26 rfl rfl (Cl.c rfl) rfl rfl (OneC.sl (SlF.o (v := v97)) OneC.nil) (kp ?_))
     refine RH.w rfl rfl (PV.mvI (.inr rfl) rfl) (RH.nil ?_)
     ·exact ⟨rfl, 1, rfl, ⟨(by kernel_rfl), trivial⟩, ⟨(by kernel_rfl), trivial⟩, Cv.p⟩
     rintro n τ7 hn
     refine WP.ret ?_
     have e0 : erCls (([] ++ [⟨ByteArray.mk #[97], ⟨u1, ss⟩, ⟨.slice none 0 0, []⟩, ⟨.slice none 0 0, []⟩⟩]) ++ [⟨ByteArray.mk #[98], ⟨u2, s2⟩, ⟨.slice none 0 0, []⟩, ⟨u3, ns⟩⟩]) = [⟨txt [97], ss, [], []⟩, ⟨txt [98], s2, [], ns⟩] := rfl
     have hsm : smC 40 (erCls (([] ++ [⟨ByteArray.mk #[97], ⟨u1, ss⟩, ⟨.slice none 0 0, []⟩, ⟨.slice none 0 0, []⟩⟩]) ++ [⟨ByteArray.mk #[98], ⟨u2, s2⟩, ⟨.slice none 0 0, []⟩, ⟨u3, ns⟩⟩])) := by
      rw [e0]
      have n0 : smC 40 [] := fun i hi => by simp at hi
      have n1 := n0.app (c := ⟨txt [97], ss, [], []⟩) (show (txt [97]).size <= 9 by decide) (fun j hj => by simp at hj) g4 ⟨by (try simp only); omega, by simp, by simp⟩
      exact n1.app (c := ⟨txt [98], s2, [], ns⟩) (show (txt [98]).size <= 9 by decide) (fun j hj => by simp at hj) j4 ⟨by (try simp only); omega, by simp, by (try simp only); omega⟩
     exact ⟨_, _, ResV.two rfl (RV1.cell rfl Ag26 rfl) rfl, Cv.p, k v97 (([] ++ [⟨ByteArray.mk #[97], ⟨u1, ss⟩, ⟨.slice none 0 0, []⟩, ⟨.slice none 0 0, []⟩⟩]) ++ [⟨ByteArray.mk #[98], ⟨u2, s2⟩, ⟨.slice none 0 0, []⟩, ⟨u3, ns⟩⟩]) n pw100 (by rw [e0, hn]; simp only [dTop2, ew13, ew17, <- g3, ew44, <- j3, ew63, <- l3, ew100, if_neg h5]) (by assumption) hsm (by simp) (by simp)⟩
def dHC (bs : List UInt8) : (List ECell × Int) × List Rule :=
  match dTop2 bs (fr bs) with
  | (t, p1) => (t, (dDk bs t.1 p1).1)
theorem smC.lay {N : Nat} {cs : List ECell} (h : smC N cs) : -2 <= lay0 cs ∧ lay0 cs <= 9 := by
 cases cs with
 | nil => exact ⟨by decide, by decide⟩
 | cons c r =>
  have h0 := (h 0 (by simp)).1
  rw [show gd (c :: r) 0 = c by simp [gd]] at h0
  obtain ⟨n, ss, ls, is⟩ := c
  cases ss with
  | nil => simp [lay0]
  | cons s t => have := h0.2.2 0 (by simp); simpa [gd, lay0] using this
theorem drawHC_f {cv : Value} {bs : List UInt8} (hcode : SL G byteT cv bs) (k : ∀ v xs n w rs, dHC bs = ((erCls xs, n), rs) -> smC 40 (erCls xs) -> xs.length <= 4 -> rs.length <= 3 -> R (.tuple #[vT libT ⟨⟨v, xs⟩⟩, vi n, vT deckT ⟨⟨w, rs⟩⟩]) G (osl 95 cellT v (xs) :: bagS 109 shapeT (shs (xs)) :: bagS 182 labelT (lbs (xs)) :: bagS 111 instT (ins (xs)) :: osl 42 ruleT w rs :: L)) : CallT Tryz.prog 7 #[cv] G L R := by
 refine CallT.enter (args := _) Tryz.func7 rfl rfl (by kernel_rfl) rfl ?_
 refine WP.sr ?_
 refine RG.ot rfl (OT.alloc rfl Zr26 fun b2 => ?_)
 refine RG.mr rfl ?_
 refine RG.ot rfl (OT.alloc rfl Zr29 fun b4 => ?_)
 refine RG.nil (WP.sr (RG.p (PV.move (v := cv) rfl rfl) ?_))
 refine RG.callF (vs := [cv]) rfl rfl En25 rfl (fromP_s hcode (fun b => have o9 := fr_ok bs; ?_))
 refine RG.p (PV.asg rfl rfl) (RG.nil (WP.sr (RG.p (PV.move rfl rfl) ?_)))
 refine RG.callF (vs := [_]) rfl rfl En26 rfl (CallT.exB (b := b) (dTop2_s hcode (by assumption) (fun w12 xs n12 p12 e12 o12 s12 hx1 hx4 => have hlb := s12.lay; ?_)))
 refine RG.p (PV.move (v := .tuple _) rfl rfl) (RG.p (PV.ext rfl rfl rfl) (RG.p (PV.ext rfl rfl rfl) ?_))
 refine RG.ot rfl (OT.alloc rfl Zr26 fun b6 => ?_)
 refine RG.ot rfl (OT.storeW (vs := [_]) rfl Sz26 rfl rfl (Cl.c rfl) rfl rfl (OneC.sl (SlF.o (v := w12)) OneC.nil) ?_)
 refine RG.mr rfl (RG.nil ?_)
 refine WP.cut3 [2, 4] (fun (n : Int) (w : Value) (rs : List Rule) => n = n12 ∧ rs.length <= 3 ∧ (dDk bs (erCls xs) p12).1 = rs) (fun (n : Int) (w : Value) (rs : List Rule) => [(3, vi n)]) (fun (n : Int) (w : Value) (rs : List Rule) => osl 95 cellT w12 (xs) :: bagS 109 shapeT (shs (xs)) :: bagS 182 labelT (lbs (xs)) :: bagS 111 instT (ins (xs)) :: osl 42 ruleT w rs :: blk b2 26 [w12] :: blk b4 29 [w] :: L) ?_ ?_
 refine WP.regionHD [.b b, .b b2, .b b4] (.q 0 (.q 1 (.q 2 (.q 3 (.l 4 (.l 5 (.q 6 (.l 7 Sch.nil)))))))) (by kernel_rfl) (by kernel_rfl) (by kernel_rfl) rfl ?_
 refine RH.w rfl rfl (PV.loadW rfl Ag26 rfl rfl) (RH.w rfl rfl (PV.mvI (.inl rfl) rfl) (RH.w rfl rfl (PV.move rfl rfl) (RH.w rfl rfl (PV.loadW rfl Ag26 rfl rfl) ?_)))
 refine RH.ot rfl rfl (OT.callF (vs := [_, _]) rfl En27 rfl (CallT.exB (b := b) (dDk_s (l := ⟨⟨w12, xs⟩⟩) hcode (by assumption) ⟨Rs.o, RsE.o, RsE.o, RsE.o⟩ hx1 hlb (fun w19 rs p19 e19 o19 hrs => (kp ?_)))))
 refine RH.ot rfl rfl (OT.storeW (vs := [_]) rfl Sz26 rfl rfl (Cl.c rfl) rfl rfl (OneC.sl (SlF.o (v := w12)) OneC.nil) (kp ?_))
 refine RH.w rfl rfl (PV.mvI (.inr rfl) rfl) ?_
 refine RH.ot rfl rfl (OT.storeW (vs := [_]) rfl Sz29 rfl rfl (Cl.c rfl) rfl rfl (OneC.sl (SlF.o (v := w19)) OneC.nil) (kp ?_))
 refine RH.nil ?_
 ·exact ⟨rfl, n12, w19, rs, ⟨rfl, hrs, by rw [e19]⟩, ⟨rfl, trivial⟩, ⟨rfl, rfl, trivial⟩, Cv.p⟩
 rintro n w rs τ1 ⟨hn, hr3, hd1⟩
 exact WP.ret ⟨_, _, ResV.three rfl (RV1.cell rfl Ag26 rfl) rfl (RV1.cell rfl Ag29 rfl), Cv.p, k w12 xs n w rs (by simp only [dHC, e12, hn, hd1]) s12 hx4 hr3⟩
end Go.Proofs.YtogocmlhnjiaaaaGreat
