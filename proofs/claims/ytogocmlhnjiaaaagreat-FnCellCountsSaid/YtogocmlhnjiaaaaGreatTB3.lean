/-
  Contracts of functions and plain facts that the last text of this folder uses, part 3.
-/
import Derived.Test.YtogocmlhnjiaaaaGreatTB2
import Derived.Laws.BytesArg
set_option linter.unusedVariables false
set_option linter.unusedSimpArgs false
namespace Go.Proofs.YtogocmlhnjiaaaaGreat
open Go
set_option maxRecDepth 20000
variable {G : Gh} {L : List Ch} {R : Value -> Gh -> List Ch -> Prop}
def regs (xs : List Piece) : List (Sl Rect) := xs.map Piece.reg
theorem l19Count_s {v : Value} {bs : List Bool} (h1 : Rs G L boolT v bs) (hl : bs.length = 6400) (k : R (vi (cnt bs)) G L) : CallT Tryz.prog 216 #[v] G L R := by
 refine CallT.enter (args := _) Tryz.func216 rfl rfl (by kernel_rfl) rfl ?_
 refine WP.sr (RG.mr rfl (RG.nil (WP.sr (RG.mr rfl (RG.nil (WP.seq (WP.sr (RG.mr rfl (RG.nil (WP.block ?_))))))))))
 refine WP.loop2 [0] (fun (i : Nat) (m : Int) => i <= bs.length ∧ m = cnt (bs.take i)) (fun (i : Nat) (m : Int) => [(4, vi i), (3, vi m)]) (fun (i : Nat) (m : Int) => L) (fun (i : Nat) (m : Int) => bs.length - i) 0 0 ⟨by omega, by simp [cnt]⟩ ⟨rfl, rfl, trivial⟩ Cv.p ?_
 rintro i m τ ⟨hi, hm⟩
 refine WP.seq (WP.sr (RG.ml rfl (RG.p (PV.move (v := v) rfl rfl) (RG.p (PV.len (v := v) rfl Tryz.underlying148 rfl (SlF.r h1)) (RG.p (PV.lss rfl rfl rfl) (RG.nil ?_))))))
 refine WP.cond rfl (fun h2 => ?_) fun h2 => ?_
 ·have h2 := odt h2
  have hct := cnt_take (bs := bs) (i := i) (by omega)
  have hcb := cnt_le (bs.take i)
  have hcl : (bs.take i).length <= 6400 := by simp; omega
  refine WP.skip (WP.seq (WP.block (WP.sr (RG.p (PV.move (v := v) rfl rfl) (RG.ml rfl (RG.p (PV.idxS (v := v) rfl Is148 rfl (SlF.r h1) rfl rfl (by omega)) (RG.p (PV.loadE1 rfl Sc4 rfl rfl (El.r h1 (getG (by omega))) rfl) (RG.nil ?_))))))))
  refine WP.cond rfl (fun h3 => ?_) fun h3 => ?_
  ·rw [h3] at hct
   refine WP.region (RG.ml rfl (RG.p (PV.add rfl rfl rfl (by omega)) (RG.mr rfl (RG.nil (WP.region (RG.ml rfl (RG.p (PV.add rfl rfl rfl (by omega)) (RG.mr rfl (RG.nil ?_)))))))))
   exact ⟨rfl, i + 1, _, ⟨by omega, by simp only [cond_true] at hct; omega⟩, ⟨rfl, rfl, trivial⟩, ⟨rfl, trivial⟩, Cv.p, by omega⟩
  ·rw [h3] at hct
   refine WP.skip (WP.region (RG.ml rfl (RG.p (PV.add rfl rfl rfl (by omega)) (RG.mr rfl (RG.nil ?_)))))
   exact ⟨rfl, i + 1, _, ⟨by omega, by simp only [cond_false] at hct; omega⟩, ⟨rfl, rfl, trivial⟩, ⟨rfl, trivial⟩, Cv.p, by omega⟩
 ·have h2 := odf h2
  have e : m = cnt bs := by rw [hm, List.take_of_length_le (by omega)]
  rw [<- e] at k
  refine WP.exit (WP.sr (RG.ml rfl (RG.mr rfl (RG.nil ?_))))
  exact WP.ret ⟨_, _, rv rfl rfl, Cv.p, k⟩
theorem comps_len (S : List Bool) : (comps S).length <= 6400 := by
 have := firsts_len S 6400
 simpa [comps] using this
theorem gd_app_at {α : Type} [Inhabited α] {xs ys : List α} {i : Nat} : gd (xs ++ ys) (xs.length + i) = gd ys i := by simp [gd, List.getElem?_append_right]
theorem Cv.pre {L L' : List Ch} (h : Cv L L') : ∀ A : List Ch, Cv (A ++ L) (A ++ L')
 | [] => h
 | _ :: A => Cv.cons (Cv.pre h A)
theorem Cv.bagJoin {α : Type} {e : TypeId} {F : FT α} {xs ys : List (Sl α)} {L : List Ch} : Cv (bagS e F xs :: bagS e F ys :: L) (bagS e F (xs ++ ys) :: L) := by
 unfold bagS
 refine Cv.ofBag.trans ((Cv.pre Cv.ofBag _).trans ?_)
 rw [<- List.append_assoc, <- List.map_append]
 exact Cv.toBag
theorem comps_mem {S : List Bool} {c : List Bool} (h : c ∈ comps S) : c.length = 6400 := by
 obtain ⟨j, _, rfl⟩ := List.mem_map.1 h; exact compB_len _ _
theorem costL_bd {α : Type} {n : α -> Int} {B : Int} : ∀ {xs : List α}, (∀ x ∈ xs, n x <= B) -> costL n xs <= B * xs.length
 | [], _ => by simp [costL]
 | x :: xs, h => by
  have h1 := h x (.head _)
  have h2 := costL_bd (xs := xs) fun y hy => h y (.tail _ hy)
  simp only [costL, List.length_cons]; rw [Int.natCast_succ, Int.mul_add]; omega
def cmn (a b : Rect) : Rect := ⟨max a.x0 b.x0, max a.y0 b.y0, min a.x1 b.x1, min a.y1 b.y1⟩
theorem validR_iff {r : Rect} : validRect r = true ↔ -40 <= r.x0 ∧ r.x0 < r.x1 ∧ r.x1 <= 40 ∧ -40 <= r.y0 ∧ r.y0 < r.y1 ∧ r.y1 <= 40 := by simp [validRect, and_assoc]
theorem inR_iff {r : Rect} {y x : Nat} : inR r y x = true ↔ r.x0 + 40 <= x ∧ (x : Int) < r.x1 + 40 ∧ r.y0 + 40 <= y ∧ (y : Int) < r.y1 + 40 := by simp [inR, and_assoc]
theorem valid_mem {xs : List Rect} (h : validRs xs = true) {r : Rect} (hr : r ∈ xs) : validRect r = true := by
 simp only [validRs, Bool.and_eq_true, List.all_eq_true] at h; exact h.2 r hr
theorem gb_bits_iff {rs : List Rect} {y x : Nat} (hy : y < 80) (hx : x < 80) : gb (bits rs) y x = true ↔ ∃ r ∈ rs, inR r y x = true := by
 rw [gb_bits' rs hy hx, List.any_eq_true]
def rl (lo hi c : Int) : Int := if c = hi then lo else c
def stepJ (J : Nat -> Nat -> Bool) (i : Nat) (cls : List Int) (k : Nat) : List Int := if gd cls k = gd cls i ∨ J k i = false then cls else cls.map (rl (min (gd cls k) (gd cls i)) (max (gd cls k) (gd cls i)))
def Rt (cls : List Int) : Prop := ∀ j, j < cls.length -> 0 <= gd cls j ∧ gd cls j <= j ∧ gd cls (gd cls j).toNat = gd cls j
theorem WP.cut4 {P : Program} {n : Nat} {Q : Post} {σ : Nat -> Value} {x y : Code} {A B D E : Type} (keep : List Nat) (J : A -> B -> D -> E -> Prop) (S : A -> B -> D -> E -> List (Nat × Value)) (C : A -> B -> D -> E -> List Ch)
  (h : WP P n x (thenP (fun σ' G' L' => G' = G ∧ ∃ a b d e, J a b d e ∧ HasV σ' (S a b d e) ∧ Keeps σ' σ keep ∧ Cv L' (C a b d e)) Q) σ G L)
  (k : ∀ a b d e τ, J a b d e -> WP P n y Q (upds (updk τ σ keep) (S a b d e)) G (C a b d e)) : WP P n (.seq x y) Q σ G L :=
 WP.cut1 keep (A := A × B × D × E) (fun x => J x.1 x.2.1 x.2.2.1 x.2.2.2) (fun x => S x.1 x.2.1 x.2.2.1 x.2.2.2) (fun x => C x.1 x.2.1 x.2.2.1 x.2.2.2) (WP.mono h fun e σ G L hq => by
   cases e with
   | normal => obtain ⟨e, a', b', d', e', h⟩ := hq; exact ⟨e, (a', b', d', e'), h⟩
   | _ => exact hq) fun a τ j => k a.1 a.2.1 a.2.2.1 a.2.2.2 τ j
theorem common_s {a b : Rect} (k : R (vrect (cmn a b)) G L) : CallT Tryz.prog 200 #[vrect a, vrect b] G L R := by
 refine CallT.enter (args := _) Tryz.func200 rfl rfl (by kernel_rfl) rfl ?_
 refine WP.sr ?_
 refine RG.ot rfl (OT.box (cs := rectT.enc a) rfl rfl rfl fun b2 => ?_)
 refine RG.ot rfl (OT.box (cs := rectT.enc b) rfl rfl rfl fun b3 => ?_)
 refine RG.ot rfl (OT.alloc rfl Zr101 fun b4 => ?_)
 refine RG.nil (WP.sr (RG.p (PV.field rfl Fo101_0 rfl) (RG.p (PV.load1 rfl Sc2 rfl (Rd.blk rfl)) (RG.p (PV.field rfl Fo101_0 rfl) (RG.p (PV.load1 rfl Sc2 rfl (Rd.blk rfl)) (RG.p (PV.max2 rfl rfl rfl) (RG.p (PV.field rfl Fo101_1 rfl) (RG.p (PV.load1 rfl Sc2 rfl (Rd.blk rfl)) (RG.p (PV.field rfl Fo101_1 rfl) (RG.p (PV.load1 rfl Sc2 rfl (Rd.blk rfl)) (RG.p (PV.max2 rfl rfl rfl) (RG.p (PV.field rfl Fo101_2 rfl) ?_))))))))))))
 refine RG.p (PV.load1 rfl Sc2 rfl (Rd.blk rfl)) (RG.p (PV.field rfl Fo101_2 rfl) (RG.p (PV.load1 rfl Sc2 rfl (Rd.blk rfl)) (RG.p (PV.min2 rfl rfl rfl) (RG.p (PV.field rfl Fo101_3 rfl) (RG.p (PV.load1 rfl Sc2 rfl (Rd.blk rfl)) (RG.p (PV.field rfl Fo101_3 rfl) (RG.p (PV.load1 rfl Sc2 rfl (Rd.blk rfl)) (RG.p (PV.min2 rfl rfl rfl) (RG.p (PV.build (vs := [(0, [vi _]), (1, [vi _]), (2, [vi _]), (3, [vi _])]) (out := [_, _, _, _]) rfl Zr101 Pl101 ⟨rfl, (Cl.c rfl), ⟨rfl, (Cl.c rfl), ⟨rfl, (Cl.c rfl), ⟨rfl, (Cl.c rfl), trivial⟩⟩⟩⟩ rfl) ?_)))))))))
 refine RG.ot rfl (OT.storeW (vs := [vi _, vi _, vi _, vi _]) rfl Sz101 rfl rfl (Cl.c rfl) rfl rfl (OneC.c rfl) ?_)
 refine RG.nil ?_
 exact WP.ret ⟨_, _, ResV.one rfl (RV1.cell rfl Ag101 rfl), Cv.p, k⟩
theorem gd_mem {α : Type} [Inhabited α] {xs : List α} {i : Nat} (h : i < xs.length) : gd xs i ∈ xs := by rw [gd_eq h]; exact List.getElem_mem h
theorem at_eq {x y : Int} (hx : -40 <= x) (hy : -40 <= y) : ((y + 40) * 80 + x + 40).toNat = (y + 40).toNat * 80 + (x + 40).toNat := by omega
theorem fill_s {v : Value} {D : List Bool} {r : Rect} (hD : D.length = 6400) (hr : validRect r = true) (k : ∀ D' : List Bool, D'.length = 6400 -> (∀ y x, y < 80 -> x < 80 -> gb D' y x = (gb D y x || inR r y x)) -> R v G (osl 4 boolT v D' :: L)) :
  CallT Tryz.prog 221 #[v, vrect r] G (osl 4 boolT v D :: L) R := by
 have hv := validR_iff.1 hr
 refine CallT.enter (args := _) Tryz.func221 rfl rfl (by kernel_rfl) rfl ?_
 refine WP.sr ?_
 refine RG.ot rfl (OT.box (cs := rectT.enc r) rfl rfl rfl fun b3 => ?_)
 refine RG.p (PV.asg rfl rfl) (RG.nil (WP.seq (WP.sr (RG.p (PV.field rfl Fo101_1 rfl) (RG.p (PV.load1 rfl Sc2 rfl (Rd.blk rfl)) (RG.mr rfl (RG.nil (WP.block ?_))))))))
 refine WP.loop2 [0, 3] (fun (y : Int) (E : List Bool) => r.y0 <= y ∧ y <= r.y1 ∧ E.length = 6400 ∧ ∀ v u : Nat, v < 80 -> u < 80 -> (gb E v u = true ↔ gb D v u = true ∨ (inR r v u = true ∧ (v : Int) - 40 < y))) (fun (y : Int) (E : List Bool) => [(5, vi y)]) (fun (y : Int) (E : List Bool) => osl 4 boolT v E :: blk b3 101 (rectT.enc r) :: L) (fun (y : Int) (E : List Bool) => (r.y1 - y).toNat) r.y0 D ⟨by omega, by omega, hD, fun v u hv hu => ⟨.inl, fun h => h.resolve_right fun ⟨h1, h2⟩ => by rw [inR_iff] at h1; omega⟩⟩ ⟨rfl, trivial⟩ Cv.p ?_
 rintro y E τ ⟨hy0, hy1, hE, hg⟩
 refine WP.seq (WP.sr (RG.ml rfl (RG.p (PV.field rfl Fo101_3 rfl) (RG.p (PV.load1 rfl Sc2 rfl (Rd.blk rfl)) (RG.p (PV.lss rfl rfl rfl) (RG.nil ?_))))))
 refine WP.cond rfl (fun h2 => ?_) fun h2 => ?_
 ·have h2 := odt h2
  refine WP.skip (WP.seq (WP.block (WP.sr (RG.p (PV.field rfl Fo101_0 rfl) (RG.p (PV.load1 rfl Sc2 rfl (Rd.blk rfl)) (RG.mr rfl (RG.nil (WP.block ?_))))))))
  refine WP.loop2 [0, 3, 5] (fun (x : Int) (F : List Bool) => r.x0 <= x ∧ x <= r.x1 ∧ F.length = 6400 ∧ ∀ v u : Nat, v < 80 -> u < 80 -> (gb F v u = true ↔ gb E v u = true ∨ ((v : Int) - 40 = y ∧ r.x0 <= (u : Int) - 40 ∧ (u : Int) - 40 < x))) (fun (x : Int) (F : List Bool) => [(6, vi x)]) (fun (x : Int) (F : List Bool) => osl 4 boolT v F :: blk b3 101 (rectT.enc r) :: L) (fun (x : Int) (F : List Bool) => (r.x1 - x).toNat) r.x0 E ⟨by omega, by omega, hE, fun v u hv hu => ⟨.inl, fun h => h.resolve_right fun ⟨h1, h2, h3⟩ => by omega⟩⟩ ⟨rfl, trivial⟩ Cv.p ?_
  rintro x F τ1 ⟨hx0, hx1, hF, hf⟩
  refine WP.seq (WP.sr (RG.ml rfl (RG.p (PV.field rfl Fo101_2 rfl) (RG.p (PV.load1 rfl Sc2 rfl (Rd.blk rfl)) (RG.p (PV.lss rfl rfl rfl) (RG.nil ?_))))))
  refine WP.cond rfl (fun h3 => ?_) fun h3 => ?_
  ·have h3 := odt h3
   have hat := at_eq (x := x) (y := y) (by omega) (by omega)
   refine WP.skip (WP.seq (WP.block (WP.region (RG.p (PV.move (v := v) rfl rfl) (RG.ml rfl (RG.ml rfl ?_))))))
   refine RG.callF (vs := [_, _]) rfl rfl En240 rfl (l17At_s (by omega) (by omega) ?_)
   refine RG.p (PV.idxS (j := ((y + 40) * 80 + x + 40).toNat) (v := v) rfl Is148 rfl SlF.o rfl (by omega) (by omega)) ?_
   refine RG.ot rfl (OT.storeE (F := boolT) rfl Sz4 rfl rfl rfl (Cl.c rfl) (OneC.c rfl) (by omega) ?_)
   refine RG.nil (WP.region (RG.ml rfl (RG.p (PV.add rfl rfl rfl (by omega)) (RG.mr rfl (RG.nil ?_)))))
   refine ⟨rfl, x + 1, (F.set ((y + 40) * 80 + x + 40).toNat true), ⟨by omega, by omega, by simpa using hF, fun v u hv hu => ?_⟩, ⟨rfl, trivial⟩, ⟨rfl, rfl, rfl, trivial⟩, Cv.p, by omega⟩
   rw [hat, gb_set' hF (by omega) (by omega) hu]
   by_cases c : v = (y + 40).toNat ∧ u = (x + 40).toNat
   ·rw [if_pos c]; simp only [true_iff]; right; omega
   ·rw [if_neg c, hf v u hv hu]
    constructor
    ·rintro (h | h)
     ·exact .inl h
     ·right; omega
    ·rintro (h | h)
     ·exact .inl h
     ·right; omega
  ·have h3 := odf h3
   refine WP.exit (WP.region (RG.ml rfl (RG.p (PV.add rfl rfl rfl (by omega)) (RG.mr rfl (RG.nil ?_)))))
   refine ⟨rfl, y + 1, F, ⟨by omega, by omega, hF, fun v u hv hu => ?_⟩, ⟨rfl, trivial⟩, ⟨rfl, rfl, trivial⟩, Cv.p, by omega⟩
   rw [hf v u hv hu, hg v u hv hu, inR_iff]
   constructor
   ·rintro ((h | h) | h)
    ·exact .inl h
    ·right; omega
    ·right; omega
   ·rintro (h | h)
    ·exact .inl (.inl h)
    ·by_cases c : (v : Int) - 40 = y
     ·right; omega
     ·left; right; omega
 ·have h2 := odf h2
  have hk : ∀ v u, v < 80 -> u < 80 -> gb E v u = (gb D v u || inR r v u) := fun v u hv hu => by
   rw [Bool.eq_iff_iff, hg v u hv hu, Bool.or_eq_true]
   constructor
   ·rintro (h | h)
    ·exact .inl h
    ·exact .inr h.1
   ·rintro (h | h)
    ·exact .inl h
    ·right; refine ⟨h, ?_⟩; rw [inR_iff] at h; omega
  refine WP.exit (WP.sr (RG.p (PV.move (v := v) rfl rfl) (RG.p (PV.asg (v := v) rfl rfl) (RG.nil ?_))))
  exact WP.ret ⟨_, _, rv rfl rfl, Cv.p, k E hE hk⟩
theorem big_s {cv : Value} {bs : List UInt8} (hcode : SL G byteT cv bs) (k : R (.bool (decide (4096 < bs.length))) G L) : CallT Tryz.prog 6 #[cv] G L R := by
 have e : decide (4096 < bs.length) = decide ((4096 : Int) < (bs.length : Int)) := by rw [Bool.eq_iff_iff]; simp; omega
 rw [e] at k
 refine CallT.enter (args := _) Tryz.func6 rfl rfl (by kernel_rfl) rfl ?_
 refine WP.sr (RG.br rfl (RG.nil (WP.sr (RG.p (PV.move (v := cv) rfl rfl) (RG.p (PV.len (v := cv) rfl Tryz.underlying22 rfl (SlF.r (Rs.g (L := []) hcode))) (RG.p (PV.gtr rfl rfl rfl) (RG.br rfl (RG.nil ?_))))))))
 exact WP.ret ⟨_, _, rv rfl rfl, Cv.p, k⟩
def rot : Nat -> Pt -> Pt
  | 0, p => p
  | n + 1, p => rot n ⟨-p.y, p.x⟩
def flip (o : Int) (p : Pt) : Pt := if 4 <= o then ⟨p.x, -p.y⟩ else p
def turnP (o : Int) (p : Pt) : Pt := rot (o % 4).toNat (flip o p)
def InB (b : Int) (p : Pt) : Prop := -b <= p.x ∧ p.x <= b ∧ -b <= p.y ∧ p.y <= b
theorem rot_in {b : Int} : ∀ (n : Nat) {p : Pt}, InB b p -> InB b (rot n p)
 | 0, _, h => h
 | n + 1, p, h => rot_in n (by obtain ⟨h1, h2, h3, h4⟩ := h; exact ⟨by simp only; omega, by simp only; omega, h1, h2⟩)
theorem flip_in {b o : Int} {p : Pt} (h : InB b p) : InB b (flip o p) := by
 unfold flip; split
 ·obtain ⟨h1, h2, h3, h4⟩ := h; exact ⟨h1, h2, by simp only; omega, by simp only; omega⟩
 ·exact h
theorem turnP_in {b o : Int} {p : Pt} (h : InB b p) : InB b (turnP o p) := rot_in _ (flip_in h)
def moveP (t : Trans) (p : Pt) : Pt := ⟨(turnP t.o p).x + t.x, (turnP t.o p).y + t.y⟩
def moveR (t : Trans) (r : Rect) : Rect :=
  ⟨min (moveP t ⟨r.x0, r.y0⟩).x (moveP t ⟨r.x1, r.y1⟩).x, min (moveP t ⟨r.x0, r.y0⟩).y (moveP t ⟨r.x1, r.y1⟩).y, max (moveP t ⟨r.x0, r.y0⟩).x (moveP t ⟨r.x1, r.y1⟩).x, max (moveP t ⟨r.x0, r.y0⟩).y (moveP t ⟨r.x1, r.y1⟩).y⟩
def RIn (b : Int) (r : Rect) : Prop := -b <= r.x0 ∧ r.x0 < r.x1 ∧ r.x1 <= b ∧ -b <= r.y0 ∧ r.y0 < r.y1 ∧ r.y1 <= b
theorem moveR_turn {o b : Int} (h : 0 <= o ∧ o <= 7) {r : Rect} (hr : RIn b r) : RIn b (moveR ⟨o, 0, 0⟩ r) := by
 obtain ⟨h1, h2, h3, h4, h5, h6⟩ := hr
 have ho : o = 0 ∨ o = 1 ∨ o = 2 ∨ o = 3 ∨ o = 4 ∨ o = 5 ∨ o = 6 ∨ o = 7 := by omega
 rcases ho with rfl | rfl | rfl | rfl | rfl | rfl | rfl | rfl <;> (simp [RIn, moveR, moveP, turnP, flip, rot]; omega)
@[reducible] def joinR (a r : Rect) : Rect := ⟨min a.x0 r.x0, min a.y0 r.y0, max a.x1 r.x1, max a.y1 r.y1⟩
def boxFrom (a : Rect) (xs : List Rect) : Rect := xs.foldl joinR a
def boxL (xs : List Rect) : Rect := boxFrom (gd xs 0) xs
theorem boxFrom_take {a : Rect} {xs : List Rect} {i : Nat} (h : i < xs.length) : boxFrom a (xs.take (i + 1)) = joinR (boxFrom a (xs.take i)) (gd xs i) := by
 rw [List.take_add_one, getG h, boxFrom, boxFrom, List.foldl_append]; rfl
theorem joinR_self (a : Rect) : joinR a a = a := by simp [joinR]
theorem boxFrom_one {xs : List Rect} (h : 0 < xs.length) : boxFrom (gd xs 0) (xs.take 1) = gd xs 0 := by
 rw [boxFrom_take h]; simp [boxFrom, joinR_self]
theorem boxFrom_in {b : Int} : ∀ (xs : List Rect) {a : Rect}, RIn b a -> (∀ r ∈ xs, RIn b r) -> RIn b (boxFrom a xs)
 | [], _, ha, _ => ha
 | x :: xs, a, ha, h => by
  have hx := h x (.head _)
  refine boxFrom_in xs (a := joinR a x) ?_ fun r hr => h r (.tail _ hr)
  simp only [RIn, joinR] at *; omega
theorem boxL_in {im : List Rect} (h0 : 0 < im.length) (h : ∀ r ∈ im, RIn 40 r) : RIn 40 (boxL im) :=
 boxFrom_in im (by rw [gd_eq h0]; exact h _ (List.getElem_mem _)) h
theorem turn_s {o : Int} {p : Pt} (ho : 0 <= o ∧ o <= 7) (hp : InB 1000 p) (k : R (vpt (turnP o p)) G L) : CallT Tryz.prog 178 #[vi o, vpt p] G L R := by
 have hf : InB 1000 (flip o p) := flip_in hp
 obtain ⟨hp1, hp2, hp3, hp4⟩ := hp
 refine CallT.enter (args := _) Tryz.func178 rfl rfl (by kernel_rfl) rfl ?_
 refine WP.sr ?_
 refine RG.ot rfl (OT.box (cs := ptT.enc p) rfl rfl rfl fun b3 => ?_)
 refine RG.ot rfl (OT.alloc rfl Zr156 fun b4 => ?_)
 refine RG.nil ?_
 refine WP.cut1 [0, 3, 4] (fun (q : Pt) => q = flip o p) (fun (q : Pt) => []) (fun (q : Pt) => blk b3 156 (ptT.enc q) :: blk b4 156 [vi 0, vi 0] :: L) ?_ ?_
 refine WP.sr (RG.ml rfl (RG.p (PV.geq rfl rfl rfl) (RG.nil ?_)))
 refine WP.cond rfl (fun h1 => ?_) fun h1 => ?_
 ·have h1 := odt h1
  refine WP.region (RG.p (PV.field rfl Fo156_1 rfl) (RG.p (PV.load1 rfl Sc2 rfl (Rd.blk rfl)) (RG.p (PV.neg rfl rfl (by omega)) (RG.p (PV.field rfl Fo156_1 rfl) ?_))))
  refine RG.ot rfl (OT.storeB (vs := [vi _]) (cs' := [_, _]) rfl Sz2 rfl rfl (Cl.c rfl) rfl (OneC.c rfl) rfl rfl ?_)
  refine RG.nil ?_
  exact ⟨rfl, (⟨p.x, -p.y⟩ : Pt), (by rw [flip, if_pos (by omega)]), trivial, ⟨rfl, rfl, rfl, trivial⟩, Cv.p⟩
 ·have h1 := odf h1
  refine WP.skip ?_
  exact ⟨rfl, p, (by rw [flip, if_neg (by omega)]), trivial, ⟨rfl, rfl, rfl, trivial⟩, Cv.p⟩
 rintro q τ1 hq
 refine WP.seq (WP.sr (RG.ml rfl (RG.p (PV.rem rfl rfl rfl (by omega) (by omega) (by omega)) (RG.mr rfl (RG.nil (WP.block ?_))))))
 subst hq
 refine WP.loop2 [3, 4] (fun (n : Int) (q : Pt) => (0 <= n ∧ n < 4) ∧ rot n.toNat q = turnP o p ∧ InB 1000 q) (fun (n : Int) (q : Pt) => [(5, vi n)]) (fun (n : Int) (q : Pt) => blk b3 156 (ptT.enc q) :: blk b4 156 [vi 0, vi 0] :: L) (fun (n : Int) (q : Pt) => n.toNat) (o % 4) (flip o p) ⟨by omega, rfl, hf⟩ ⟨rfl, trivial⟩ Cv.p ?_
 rintro n q τ ⟨hn, hr, hi1, hi2, hi3, hi4⟩
 refine WP.seq (WP.sr (RG.ml rfl (RG.p (PV.gtr rfl rfl rfl) (RG.nil ?_))))
 refine WP.cond rfl (fun h2 => ?_) fun h2 => ?_
 ·have h2 := odt h2
  refine WP.skip (WP.seq (WP.block (WP.region (RG.p (PV.field rfl Fo156_1 rfl) (RG.p (PV.load1 rfl Sc2 rfl (Rd.blk rfl)) (RG.p (PV.neg rfl rfl (by omega)) (RG.p (PV.field rfl Fo156_0 rfl) (RG.p (PV.load1 rfl Sc2 rfl (Rd.blk rfl)) (RG.p (PV.build (vs := [(0, [vi _]), (1, [vi _])]) (out := [_, _]) rfl Zr156 Pl156 ⟨rfl, (Cl.c rfl), ⟨rfl, (Cl.c rfl), trivial⟩⟩ rfl) ?_)))))))))
  refine RG.ot rfl (OT.storeW (vs := [vi _, vi _]) rfl Sz156 rfl rfl (Cl.c rfl) rfl rfl (OneC.c rfl) ?_)
  refine RG.nil (WP.region (RG.ml rfl (RG.p (PV.sub rfl rfl rfl (by omega)) (RG.mr rfl (RG.nil ?_)))))
  refine ⟨rfl, n - 1, ⟨-q.y, q.x⟩, ⟨by omega, ?_, by simp only; omega, by simp only; omega, hi1, hi2⟩, ⟨rfl, trivial⟩, ⟨rfl, rfl, trivial⟩, Cv.p, by omega⟩
  rw [<- hr, show n.toNat = (n - 1).toNat + 1 by omega]; rfl
 ·have h2 := odf h2
  have e : turnP o p = q := by rw [<- hr, show n.toNat = 0 by omega]; rfl
  rw [e] at k
  refine WP.exit (WP.sr (RG.p (PV.loadW rfl Ag156 rfl rfl) ?_))
  refine RG.ot rfl (OT.storeW (vs := [vi _, vi _]) rfl Sz156 rfl rfl (Cl.c rfl) rfl rfl (OneC.c rfl) ?_)
  refine RG.nil ?_
  exact WP.ret ⟨_, _, ResV.one rfl (RV1.cell rfl Ag156 rfl), Cv.p, k⟩
theorem turn_r {o : Int} {p : Pt} (ho : 0 <= o ∧ o <= 7) (hp : InB 1000 p) (k : R (vpt (turnP o p)) G L) : CallT Tryz.prog 231 #[vi o, vpt p] G L R := by
 have hf : InB 1000 (flip o p) := flip_in hp
 obtain ⟨hp1, hp2, hp3, hp4⟩ := hp
 refine CallT.enter (args := _) Tryz.func231 rfl rfl (by kernel_rfl) rfl ?_
 refine WP.sr ?_
 refine RG.ot rfl (OT.box (cs := ptT.enc p) rfl rfl rfl fun b3 => ?_)
 refine RG.ot rfl (OT.alloc rfl Zr156 fun b4 => ?_)
 refine RG.nil (WP.seq ?_)
 refine WP.regionQ (by kernel_rfl) (by kernel_rfl) ?_
 refine RQ.pv rfl (PV.field rfl Fo156_0 rfl) (RQ.pv rfl (PV.load1 rfl Sc2 rfl (Rd.blk rfl)) (RQ.pv rfl (PV.field rfl Fo156_1 rfl) (RQ.pv rfl (PV.load1 rfl Sc2 rfl (Rd.blk rfl)) (RQ.pv rfl (PV.mvI (.inr rfl) rfl) (RQ.pv rfl (PV.mvI (.inr rfl) rfl) (RQ.nil ?_))))))
 refine WP.cut1 [0, 4] (fun (q : Pt) => q = flip o p) (fun (q : Pt) => [(5, vi q.x), (6, vi q.y)]) (fun (q : Pt) => blk b4 156 [vi 0, vi 0] :: L) ?_ ?_
 refine WP.sr (RG.ml rfl (RG.p (PV.geq rfl rfl rfl) (RG.nil ?_)))
 refine WP.cond rfl (fun h1 => ?_) fun h1 => ?_
 ·have h1 := odt h1
  refine WP.region (RG.ml rfl (RG.p (PV.neg rfl rfl (by omega)) (RG.mr rfl (RG.nil ?_))))
  exact ⟨rfl, (⟨p.x, -p.y⟩ : Pt), (by rw [flip, if_pos (by omega)]), ⟨rfl, rfl, trivial⟩, ⟨rfl, rfl, trivial⟩, Cv.p⟩
 ·have h1 := odf h1
  refine WP.skip ?_
  exact ⟨rfl, p, (by rw [flip, if_neg (by omega)]), ⟨rfl, rfl, trivial⟩, ⟨rfl, rfl, trivial⟩, Cv.p⟩
 rintro q τ1 hq
 refine WP.seq (WP.sr (RG.ml rfl (RG.p (PV.rem rfl rfl rfl (by omega) (by omega) (by omega)) (RG.mr rfl (RG.nil (WP.block ?_))))))
 subst hq
 refine WP.loop2 [4] (fun (n : Int) (q : Pt) => (0 <= n ∧ n < 4) ∧ rot n.toNat q = turnP o p ∧ InB 1000 q) (fun (n : Int) (q : Pt) => [(7, vi n), (5, vi q.x), (6, vi q.y)]) (fun (n : Int) (q : Pt) => blk b4 156 [vi 0, vi 0] :: L) (fun (n : Int) (q : Pt) => n.toNat) (o % 4) (flip o p) ⟨by omega, rfl, hf⟩ ⟨rfl, rfl, rfl, trivial⟩ Cv.p ?_
 rintro n q τ ⟨hn, hr, hi1, hi2, hi3, hi4⟩
 refine WP.seq (WP.sr (RG.ml rfl (RG.p (PV.gtr rfl rfl rfl) (RG.nil ?_))))
 refine WP.cond rfl (fun h2 => ?_) fun h2 => ?_
 ·have h2 := odt h2
  refine WP.skip (WP.seq (WP.block (WP.region (RG.ml rfl (RG.p (PV.neg rfl rfl (by omega)) (RG.ml rfl (RG.mr rfl (RG.mr rfl (RG.nil (WP.region (RG.ml rfl (RG.p (PV.sub rfl rfl rfl (by omega)) (RG.mr rfl ?_)))))))))))))
  refine RG.nil ?_
  refine ⟨rfl, n - 1, ⟨-q.y, q.x⟩, ⟨by omega, ?_, by simp only; omega, by simp only; omega, hi1, hi2⟩, ⟨rfl, rfl, rfl, trivial⟩, ⟨rfl, trivial⟩, Cv.p, by omega⟩
  rw [<- hr, show n.toNat = (n - 1).toNat + 1 by omega]; rfl
 ·have h2 := odf h2
  have e : turnP o p = q := by rw [<- hr, show n.toNat = 0 by omega]; rfl
  rw [e] at k
  refine WP.exit (WP.sr (RG.ml rfl (RG.ml rfl (RG.p (PV.build (vs := [(0, [vi _]), (1, [vi _])]) (out := [_, _]) rfl Zr156 Pl156 ⟨rfl, (Cl.c rfl), ⟨rfl, (Cl.c rfl), trivial⟩⟩ rfl) ?_))))
  refine RG.ot rfl (OT.storeW (vs := [vi _, vi _]) rfl Sz156 rfl rfl (Cl.c rfl) rfl rfl (OneC.c rfl) ?_)
  refine RG.nil ?_
  exact WP.ret ⟨_, _, ResV.one rfl (RV1.cell rfl Ag156 rfl), Cv.p, k⟩
theorem move_s {t : Trans} {p : Pt} (ho : 0 <= t.o ∧ t.o <= 7) (ht : -1000 <= t.x ∧ t.x <= 1000 ∧ -1000 <= t.y ∧ t.y <= 1000) (hp : InB 1000 p) (k : R (vpt (moveP t p)) G L) : CallT Tryz.prog 115 #[vtrans t, vpt p] G L R := by
 obtain ⟨hq1, hq2, hq3, hq4⟩ : InB 1000 (turnP t.o p) := turnP_in hp
 refine CallT.enter (args := _) Tryz.func115 rfl rfl (by kernel_rfl) rfl ?_
 refine WP.sr ?_
 refine RG.ot rfl (OT.box (cs := transT.enc t) rfl rfl rfl fun b2 => ?_)
 refine RG.ot rfl (OT.box (cs := ptT.enc p) rfl rfl rfl fun b3 => ?_)
 refine RG.ot rfl (OT.alloc rfl Zr156 fun b4 => ?_)
 refine RG.nil (WP.sr (RG.p (PV.field rfl Fo87_0 rfl) (RG.p (PV.load1 rfl Sc2 rfl (Rd.blk rfl)) (RG.p (PV.loadW rfl Ag156 rfl rfl) ?_))))
 refine RG.callF (vs := [_, _]) rfl rfl En178 rfl (turn_s ho hp ?_)
 refine RG.ot rfl (OT.storeW (vs := [vi _, vi _]) rfl Sz156 rfl rfl (Cl.c rfl) rfl rfl (OneC.c rfl) ?_)
 refine RG.nil (WP.sr (RG.p (PV.field rfl Fo156_0 rfl) (RG.p (PV.load1 rfl Sc2 rfl (Rd.blk rfl)) (RG.p (PV.field rfl Fo87_1 rfl) (RG.p (PV.load1 rfl Sc2 rfl (Rd.blk rfl)) (RG.p (PV.add rfl rfl rfl (by omega)) (RG.p (PV.field rfl Fo156_1 rfl) (RG.p (PV.load1 rfl Sc2 rfl (Rd.blk rfl)) (RG.p (PV.field rfl Fo87_2 rfl) (RG.p (PV.load1 rfl Sc2 rfl (Rd.blk rfl)) (RG.p (PV.add rfl rfl rfl (by omega)) (RG.p (PV.build (vs := [(0, [vi _]), (1, [vi _])]) (out := [_, _]) rfl Zr156 Pl156 ⟨rfl, (Cl.c rfl), ⟨rfl, (Cl.c rfl), trivial⟩⟩ rfl) ?_))))))))))))
 refine RG.ot rfl (OT.storeW (vs := [vi _, vi _]) rfl Sz156 rfl rfl (Cl.c rfl) rfl rfl (OneC.c rfl) ?_)
 refine RG.nil ?_
 exact WP.ret ⟨_, _, ResV.one rfl (RV1.cell rfl Ag156 rfl), Cv.p, k⟩
theorem move_r {t : Trans} {p : Pt} (ho : 0 <= t.o ∧ t.o <= 7) (ht : -1000 <= t.x ∧ t.x <= 1000 ∧ -1000 <= t.y ∧ t.y <= 1000) (hp : InB 1000 p) (k : R (vpt (moveP t p)) G L) : CallT Tryz.prog 189 #[vtrans t, vpt p] G L R := by
 obtain ⟨hq1, hq2, hq3, hq4⟩ : InB 1000 (turnP t.o p) := turnP_in hp
 refine CallT.enter (args := _) Tryz.func189 rfl rfl (by kernel_rfl) rfl ?_
 refine WP.sr ?_
 refine RG.ot rfl (OT.box (cs := transT.enc t) rfl rfl rfl fun b2 => ?_)
 refine RG.ot rfl (OT.box (cs := ptT.enc p) rfl rfl rfl fun b3 => ?_)
 refine RG.ot rfl (OT.alloc rfl Zr156 fun b4 => ?_)
 refine RG.nil (WP.sr (RG.p (PV.field rfl Fo87_0 rfl) (RG.p (PV.load1 rfl Sc2 rfl (Rd.blk rfl)) (RG.p (PV.loadW rfl Ag156 rfl rfl) ?_))))
 refine RG.callF (vs := [_, _]) rfl rfl En231 rfl (turn_r ho hp ?_)
 refine RG.ot rfl (OT.alloc rfl Zr156 fun b5 => ?_)
 refine RG.ot rfl (OT.storeW (vs := [vi _, vi _]) rfl Sz156 rfl rfl (Cl.c rfl) rfl rfl (OneC.c rfl) ?_)
 refine RG.nil (WP.sr (RG.p (PV.field rfl Fo156_0 rfl) (RG.p (PV.load1 rfl Sc2 rfl (Rd.blk rfl)) (RG.p (PV.field rfl Fo87_1 rfl) (RG.p (PV.load1 rfl Sc2 rfl (Rd.blk rfl)) (RG.p (PV.add rfl rfl rfl (by omega)) (RG.p (PV.field rfl Fo156_1 rfl) (RG.p (PV.load1 rfl Sc2 rfl (Rd.blk rfl)) (RG.p (PV.field rfl Fo87_2 rfl) (RG.p (PV.load1 rfl Sc2 rfl (Rd.blk rfl)) (RG.p (PV.add rfl rfl rfl (by omega)) (RG.p (PV.build (vs := [(0, [vi _]), (1, [vi _])]) (out := [_, _]) rfl Zr156 Pl156 ⟨rfl, (Cl.c rfl), ⟨rfl, (Cl.c rfl), trivial⟩⟩ rfl) ?_))))))))))))
 refine RG.ot rfl (OT.storeW (vs := [vi _, vi _]) rfl Sz156 rfl rfl (Cl.c rfl) rfl rfl (OneC.c rfl) ?_)
 refine RG.nil ?_
 exact WP.ret ⟨_, _, ResV.one rfl (RV1.cell rfl Ag156 rfl), Cv.p, k⟩
theorem RIn_pts {r : Rect} (h : RIn 40 r) : InB 1000 ⟨r.x0, r.y0⟩ ∧ InB 1000 ⟨r.x1, r.y1⟩ := by
 obtain ⟨h1, h2, h3, h4, h5, h6⟩ := h
 exact ⟨⟨by simp only; omega, by simp only; omega, by simp only; omega, by simp only; omega⟩, ⟨by simp only; omega, by simp only; omega, by simp only; omega, by simp only; omega⟩⟩
theorem moveRect_s {t : Trans} {r : Rect} (ho : 0 <= t.o ∧ t.o <= 7) (ht : -1000 <= t.x ∧ t.x <= 1000 ∧ -1000 <= t.y ∧ t.y <= 1000) (hr : RIn 40 r) (k : R (vrect (moveR t r)) G L) : CallT Tryz.prog 66 #[vtrans t, vrect r] G L R := by
 refine CallT.enter (args := _) Tryz.func66 rfl rfl (by kernel_rfl) rfl ?_
 refine WP.sr ?_
 refine RG.ot rfl (OT.box (cs := transT.enc t) rfl rfl rfl fun b2 => ?_)
 refine RG.ot rfl (OT.box (cs := rectT.enc r) rfl rfl rfl fun b3 => ?_)
 refine RG.ot rfl (OT.alloc rfl Zr101 fun b4 => ?_)
 refine RG.nil ?_
 refine WP.cut2 [4] (fun (b5 b6 : Nat) => True) (fun (b5 b6 : Nat) => [(5, .pointer (some ⟨b5, 0, none⟩)), (6, .pointer (some ⟨b6, 0, none⟩))]) (fun (b5 b6 : Nat) => blk b5 156 (ptT.enc (moveP t ⟨r.x0, r.y0⟩)) :: blk b6 156 (ptT.enc (moveP t ⟨r.x1, r.y1⟩)) :: blk b4 101 [vi 0, vi 0, vi 0, vi 0] :: L) ?_ ?_
 refine WP.regionH0 (.q 0 (.q 1 (.q 2 (.q 3 (.q 4 (.q 5 (.q 7 (.q 8 (.q 9 (.q 10 (.q 11 (.q 12 (.c 6 (.c 13 (.b 14 (.l 15 (.l 16 (.l 17 Sch.nil))) 15 (.l 14 (.l 16 (.l 17 Sch.nil)))) 14 (.b 13 (.l 15 (.l 16 (.l 17 Sch.nil))) 15 (.l 13 (.l 16 (.l 17 Sch.nil)))) 15 (.b 13 (.l 14 (.l 16 (.l 17 Sch.nil))) 14 (.l 13 (.l 16 (.l 17 Sch.nil))))) 14 (.b 6 (.b 13 (.l 15 (.l 16 (.l 17 Sch.nil))) 15 (.l 13 (.l 16 (.l 17 Sch.nil)))) 15 (.l 6 (.l 13 (.l 16 (.l 17 Sch.nil))))) 15 (.b 6 (.b 13 (.l 14 (.l 16 (.l 17 Sch.nil))) 14 (.l 13 (.l 16 (.l 17 Sch.nil)))) 14 (.l 6 (.l 13 (.l 16 (.l 17 Sch.nil)))))))))))))))))) (by kernel_rfl) (by kernel_rfl) (by kernel_rfl) rfl ?_
 refine RH.w rfl rfl (PV.loadW rfl Ag87 rfl rfl) (RH.w rfl rfl (PV.field rfl Fo101_0 rfl) (RH.w rfl rfl (PV.load1 rfl Sc2 rfl (Rd.blk rfl)) (RH.w rfl rfl (PV.field rfl Fo101_1 rfl) (RH.w rfl rfl (PV.load1 rfl Sc2 rfl (Rd.blk rfl)) (RH.w rfl rfl (PV.build (vs := [(0, [vi _]), (1, [vi _])]) (out := [_, _]) rfl Zr156 Pl156 ⟨rfl, (Cl.c rfl), ⟨rfl, (Cl.c rfl), trivial⟩⟩ rfl) (RH.w rfl rfl (PV.loadW rfl Ag87 rfl rfl) (RH.w rfl rfl (PV.field rfl Fo101_2 rfl) (RH.w rfl rfl (PV.load1 rfl Sc2 rfl (Rd.blk rfl)) (RH.w rfl rfl (PV.field rfl Fo101_3 rfl) (RH.w rfl rfl (PV.load1 rfl Sc2 rfl (Rd.blk rfl)) (RH.w rfl rfl (PV.build (vs := [(0, [vi _]), (1, [vi _])]) (out := [_, _]) rfl Zr156 Pl156 ⟨rfl, (Cl.c rfl), ⟨rfl, (Cl.c rfl), trivial⟩⟩ rfl) ?_)))))))))))
 ·refine RH.ot3 rfl rfl rfl rfl rfl rfl  (OT.callF (vs := [_, _]) rfl En115 rfl (move_s (p := ⟨_, _⟩) ho ht (by first | exact (RIn_pts hr).1 | exact (RIn_pts hr).2) (kp ?_))) (OT.alloc rfl Zr156 fun b5 => (kp ?_)) (OT.alloc rfl Zr156 fun b6 => (kp ?_))
  ·refine RH.ot3 rfl rfl rfl rfl rfl rfl  (OT.callF (vs := [_, _]) rfl En115 rfl (move_s (p := ⟨_, _⟩) ho ht (by first | exact (RIn_pts hr).1 | exact (RIn_pts hr).2) (kp ?_))) (OT.alloc rfl Zr156 fun b5 => (kp ?_)) (OT.alloc rfl Zr156 fun b6 => (kp ?_))
   ·refine RH.ot2 rfl rfl rfl rfl  (OT.alloc rfl Zr156 fun b5 => (kp ?_)) (OT.alloc rfl Zr156 fun b6 => (kp ?_))
    ·refine RH.ot rfl rfl (OT.alloc rfl Zr156 fun b6 => (kp ?_))
     refine RH.ot rfl rfl (OT.storeW (vs := [vi _, vi _]) rfl Sz156 rfl rfl (Cl.c rfl) rfl rfl (OneC.c rfl) (kp ?_))
     refine RH.ot rfl rfl (OT.storeW (vs := [vi _, vi _]) rfl Sz156 rfl rfl (Cl.c rfl) rfl rfl (OneC.c rfl) (kp ?_))
     refine RH.nil ?_
     exact ⟨rfl, b5, b6, trivial, ⟨rfl, rfl, trivial⟩, ⟨rfl, trivial⟩, Cv.p⟩
    ·refine RH.ot rfl rfl (OT.alloc rfl Zr156 fun b5 => (kp ?_))
     refine RH.ot rfl rfl (OT.storeW (vs := [vi _, vi _]) rfl Sz156 rfl rfl (Cl.c rfl) rfl rfl (OneC.c rfl) (kp ?_))
     refine RH.ot rfl rfl (OT.storeW (vs := [vi _, vi _]) rfl Sz156 rfl rfl (Cl.c rfl) rfl rfl (OneC.c rfl) (kp ?_))
     refine RH.nil ?_
     exact ⟨rfl, b5, b6, trivial, ⟨rfl, rfl, trivial⟩, ⟨rfl, trivial⟩, Cv.p⟩
   ·refine RH.ot2 rfl rfl rfl rfl  (OT.callF (vs := [_, _]) rfl En115 rfl (move_s (p := ⟨_, _⟩) ho ht (by first | exact (RIn_pts hr).1 | exact (RIn_pts hr).2) (kp ?_))) (OT.alloc rfl Zr156 fun b6 => (kp ?_))
    ·refine RH.ot rfl rfl (OT.alloc rfl Zr156 fun b6 => (kp ?_))
     refine RH.ot rfl rfl (OT.storeW (vs := [vi _, vi _]) rfl Sz156 rfl rfl (Cl.c rfl) rfl rfl (OneC.c rfl) (kp ?_))
     refine RH.ot rfl rfl (OT.storeW (vs := [vi _, vi _]) rfl Sz156 rfl rfl (Cl.c rfl) rfl rfl (OneC.c rfl) (kp ?_))
     refine RH.nil ?_
     exact ⟨rfl, b5, b6, trivial, ⟨rfl, rfl, trivial⟩, ⟨rfl, trivial⟩, Cv.p⟩
    ·refine RH.ot rfl rfl (OT.callF (vs := [_, _]) rfl En115 rfl (move_s (p := ⟨_, _⟩) ho ht (by first | exact (RIn_pts hr).1 | exact (RIn_pts hr).2) (kp ?_)))
     refine RH.ot rfl rfl (OT.storeW (vs := [vi _, vi _]) rfl Sz156 rfl rfl (Cl.c rfl) rfl rfl (OneC.c rfl) (kp ?_))
     refine RH.ot rfl rfl (OT.storeW (vs := [vi _, vi _]) rfl Sz156 rfl rfl (Cl.c rfl) rfl rfl (OneC.c rfl) (kp ?_))
     refine RH.nil ?_
     exact ⟨rfl, b5, b6, trivial, ⟨rfl, rfl, trivial⟩, ⟨rfl, trivial⟩, Cv.p⟩
   ·refine RH.ot2 rfl rfl rfl rfl  (OT.callF (vs := [_, _]) rfl En115 rfl (move_s (p := ⟨_, _⟩) ho ht (by first | exact (RIn_pts hr).1 | exact (RIn_pts hr).2) (kp ?_))) (OT.alloc rfl Zr156 fun b5 => (kp ?_))
    ·refine RH.ot rfl rfl (OT.alloc rfl Zr156 fun b5 => (kp ?_))
     refine RH.ot rfl rfl (OT.storeW (vs := [vi _, vi _]) rfl Sz156 rfl rfl (Cl.c rfl) rfl rfl (OneC.c rfl) (kp ?_))
     refine RH.ot rfl rfl (OT.storeW (vs := [vi _, vi _]) rfl Sz156 rfl rfl (Cl.c rfl) rfl rfl (OneC.c rfl) (kp ?_))
     refine RH.nil ?_
     exact ⟨rfl, b5, b6, trivial, ⟨rfl, rfl, trivial⟩, ⟨rfl, trivial⟩, Cv.p⟩
    ·refine RH.ot rfl rfl (OT.callF (vs := [_, _]) rfl En115 rfl (move_s (p := ⟨_, _⟩) ho ht (by first | exact (RIn_pts hr).1 | exact (RIn_pts hr).2) (kp ?_)))
     refine RH.ot rfl rfl (OT.storeW (vs := [vi _, vi _]) rfl Sz156 rfl rfl (Cl.c rfl) rfl rfl (OneC.c rfl) (kp ?_))
     refine RH.ot rfl rfl (OT.storeW (vs := [vi _, vi _]) rfl Sz156 rfl rfl (Cl.c rfl) rfl rfl (OneC.c rfl) (kp ?_))
     refine RH.nil ?_
     exact ⟨rfl, b5, b6, trivial, ⟨rfl, rfl, trivial⟩, ⟨rfl, trivial⟩, Cv.p⟩
  ·refine RH.ot2 rfl rfl rfl rfl  (OT.callF (vs := [_, _]) rfl En115 rfl (move_s (p := ⟨_, _⟩) ho ht (by first | exact (RIn_pts hr).1 | exact (RIn_pts hr).2) (kp ?_))) (OT.alloc rfl Zr156 fun b6 => (kp ?_))
   ·refine RH.ot2 rfl rfl rfl rfl  (OT.callF (vs := [_, _]) rfl En115 rfl (move_s (p := ⟨_, _⟩) ho ht (by first | exact (RIn_pts hr).1 | exact (RIn_pts hr).2) (kp ?_))) (OT.alloc rfl Zr156 fun b6 => (kp ?_))
    ·refine RH.ot rfl rfl (OT.alloc rfl Zr156 fun b6 => (kp ?_))
     refine RH.ot rfl rfl (OT.storeW (vs := [vi _, vi _]) rfl Sz156 rfl rfl (Cl.c rfl) rfl rfl (OneC.c rfl) (kp ?_))
     refine RH.ot rfl rfl (OT.storeW (vs := [vi _, vi _]) rfl Sz156 rfl rfl (Cl.c rfl) rfl rfl (OneC.c rfl) (kp ?_))
     refine RH.nil ?_
     exact ⟨rfl, b5, b6, trivial, ⟨rfl, rfl, trivial⟩, ⟨rfl, trivial⟩, Cv.p⟩
    ·refine RH.ot rfl rfl (OT.callF (vs := [_, _]) rfl En115 rfl (move_s (p := ⟨_, _⟩) ho ht (by first | exact (RIn_pts hr).1 | exact (RIn_pts hr).2) (kp ?_)))
     refine RH.ot rfl rfl (OT.storeW (vs := [vi _, vi _]) rfl Sz156 rfl rfl (Cl.c rfl) rfl rfl (OneC.c rfl) (kp ?_))
     refine RH.ot rfl rfl (OT.storeW (vs := [vi _, vi _]) rfl Sz156 rfl rfl (Cl.c rfl) rfl rfl (OneC.c rfl) (kp ?_))
     refine RH.nil ?_
     exact ⟨rfl, b5, b6, trivial, ⟨rfl, rfl, trivial⟩, ⟨rfl, trivial⟩, Cv.p⟩
   ·refine RH.ot rfl rfl (OT.callF (vs := [_, _]) rfl En115 rfl (move_s (p := ⟨_, _⟩) ho ht (by first | exact (RIn_pts hr).1 | exact (RIn_pts hr).2) (kp ?_)))
    refine RH.ot rfl rfl (OT.callF (vs := [_, _]) rfl En115 rfl (move_s (p := ⟨_, _⟩) ho ht (by first | exact (RIn_pts hr).1 | exact (RIn_pts hr).2) (kp ?_)))
    refine RH.ot rfl rfl (OT.storeW (vs := [vi _, vi _]) rfl Sz156 rfl rfl (Cl.c rfl) rfl rfl (OneC.c rfl) (kp ?_))
    refine RH.ot rfl rfl (OT.storeW (vs := [vi _, vi _]) rfl Sz156 rfl rfl (Cl.c rfl) rfl rfl (OneC.c rfl) (kp ?_))
    refine RH.nil ?_
    exact ⟨rfl, b5, b6, trivial, ⟨rfl, rfl, trivial⟩, ⟨rfl, trivial⟩, Cv.p⟩
  ·refine RH.ot2 rfl rfl rfl rfl  (OT.callF (vs := [_, _]) rfl En115 rfl (move_s (p := ⟨_, _⟩) ho ht (by first | exact (RIn_pts hr).1 | exact (RIn_pts hr).2) (kp ?_))) (OT.alloc rfl Zr156 fun b5 => (kp ?_))
   ·refine RH.ot2 rfl rfl rfl rfl  (OT.callF (vs := [_, _]) rfl En115 rfl (move_s (p := ⟨_, _⟩) ho ht (by first | exact (RIn_pts hr).1 | exact (RIn_pts hr).2) (kp ?_))) (OT.alloc rfl Zr156 fun b5 => (kp ?_))
    ·refine RH.ot rfl rfl (OT.alloc rfl Zr156 fun b5 => (kp ?_))
     refine RH.ot rfl rfl (OT.storeW (vs := [vi _, vi _]) rfl Sz156 rfl rfl (Cl.c rfl) rfl rfl (OneC.c rfl) (kp ?_))
     refine RH.ot rfl rfl (OT.storeW (vs := [vi _, vi _]) rfl Sz156 rfl rfl (Cl.c rfl) rfl rfl (OneC.c rfl) (kp ?_))
     refine RH.nil ?_
     exact ⟨rfl, b5, b6, trivial, ⟨rfl, rfl, trivial⟩, ⟨rfl, trivial⟩, Cv.p⟩
    ·refine RH.ot rfl rfl (OT.callF (vs := [_, _]) rfl En115 rfl (move_s (p := ⟨_, _⟩) ho ht (by first | exact (RIn_pts hr).1 | exact (RIn_pts hr).2) (kp ?_)))
     refine RH.ot rfl rfl (OT.storeW (vs := [vi _, vi _]) rfl Sz156 rfl rfl (Cl.c rfl) rfl rfl (OneC.c rfl) (kp ?_))
     refine RH.ot rfl rfl (OT.storeW (vs := [vi _, vi _]) rfl Sz156 rfl rfl (Cl.c rfl) rfl rfl (OneC.c rfl) (kp ?_))
     refine RH.nil ?_
     exact ⟨rfl, b5, b6, trivial, ⟨rfl, rfl, trivial⟩, ⟨rfl, trivial⟩, Cv.p⟩
   ·refine RH.ot rfl rfl (OT.callF (vs := [_, _]) rfl En115 rfl (move_s (p := ⟨_, _⟩) ho ht (by first | exact (RIn_pts hr).1 | exact (RIn_pts hr).2) (kp ?_)))
    refine RH.ot rfl rfl (OT.callF (vs := [_, _]) rfl En115 rfl (move_s (p := ⟨_, _⟩) ho ht (by first | exact (RIn_pts hr).1 | exact (RIn_pts hr).2) (kp ?_)))
    refine RH.ot rfl rfl (OT.storeW (vs := [vi _, vi _]) rfl Sz156 rfl rfl (Cl.c rfl) rfl rfl (OneC.c rfl) (kp ?_))
    refine RH.ot rfl rfl (OT.storeW (vs := [vi _, vi _]) rfl Sz156 rfl rfl (Cl.c rfl) rfl rfl (OneC.c rfl) (kp ?_))
    refine RH.nil ?_
    exact ⟨rfl, b5, b6, trivial, ⟨rfl, rfl, trivial⟩, ⟨rfl, trivial⟩, Cv.p⟩
 ·rintro b5 b6 τ1 -
  refine WP.sr (RG.p (PV.field rfl Fo156_0 rfl) (RG.p (PV.load1 rfl Sc2 rfl (Rd.blk rfl)) (RG.p (PV.field rfl Fo156_0 rfl) (RG.p (PV.load1 rfl Sc2 rfl (Rd.blk rfl)) (RG.p (PV.min2 rfl rfl rfl) (RG.p (PV.field rfl Fo156_1 rfl) (RG.p (PV.load1 rfl Sc2 rfl (Rd.blk rfl)) (RG.p (PV.field rfl Fo156_1 rfl) (RG.p (PV.load1 rfl Sc2 rfl (Rd.blk rfl)) (RG.p (PV.min2 rfl rfl rfl) (RG.p (PV.field rfl Fo156_0 rfl) (RG.p (PV.load1 rfl Sc2 rfl (Rd.blk rfl)) ?_))))))))))))
  refine RG.p (PV.field rfl Fo156_0 rfl) (RG.p (PV.load1 rfl Sc2 rfl (Rd.blk rfl)) (RG.p (PV.max2 rfl rfl rfl) (RG.p (PV.field rfl Fo156_1 rfl) (RG.p (PV.load1 rfl Sc2 rfl (Rd.blk rfl)) (RG.p (PV.field rfl Fo156_1 rfl) (RG.p (PV.load1 rfl Sc2 rfl (Rd.blk rfl)) (RG.p (PV.max2 rfl rfl rfl) (RG.p (PV.build (vs := [(0, [vi _]), (1, [vi _]), (2, [vi _]), (3, [vi _])]) (out := [_, _, _, _]) rfl Zr101 Pl101 ⟨rfl, (Cl.c rfl), ⟨rfl, (Cl.c rfl), ⟨rfl, (Cl.c rfl), ⟨rfl, (Cl.c rfl), trivial⟩⟩⟩⟩ rfl) ?_))))))))
  refine RG.ot rfl (OT.storeW (vs := [vi _, vi _, vi _, vi _]) rfl Sz101 rfl rfl (Cl.c rfl) rfl rfl (OneC.c rfl) ?_)
  refine RG.nil ?_
  exact WP.ret ⟨_, _, ResV.one rfl (RV1.cell rfl Ag101 rfl), Cv.p, k⟩
theorem moveRect_r {t : Trans} {r : Rect} (ho : 0 <= t.o ∧ t.o <= 7) (ht : -1000 <= t.x ∧ t.x <= 1000 ∧ -1000 <= t.y ∧ t.y <= 1000) (hr : RIn 40 r) (k : R (vrect (moveR t r)) G L) : CallT Tryz.prog 129 #[vtrans t, vrect r] G L R := by
 refine CallT.enter (args := _) Tryz.func129 rfl rfl (by kernel_rfl) rfl ?_
 refine WP.sr ?_
 refine RG.ot rfl (OT.box (cs := transT.enc t) rfl rfl rfl fun b2 => ?_)
 refine RG.ot rfl (OT.box (cs := rectT.enc r) rfl rfl rfl fun b3 => ?_)
 refine RG.ot rfl (OT.alloc rfl Zr101 fun b4 => ?_)
 refine RG.nil (WP.sr (RG.p (PV.loadW rfl Ag87 rfl rfl) (RG.p (PV.field rfl Fo101_0 rfl) (RG.p (PV.load1 rfl Sc2 rfl (Rd.blk rfl)) (RG.p (PV.field rfl Fo101_1 rfl) (RG.p (PV.load1 rfl Sc2 rfl (Rd.blk rfl)) (RG.p (PV.build (vs := [(0, [vi _]), (1, [vi _])]) (out := [_, _]) rfl Zr156 Pl156 ⟨rfl, (Cl.c rfl), ⟨rfl, (Cl.c rfl), trivial⟩⟩ rfl) ?_)))))))
 refine RG.callF (vs := [_, _]) rfl rfl En189 rfl (move_r (p := ⟨_, _⟩) ho ht (by first | exact (RIn_pts hr).1 | exact (RIn_pts hr).2) ?_)
 refine RG.ot rfl (OT.alloc rfl Zr156 fun b5 => ?_)
 refine RG.ot rfl (OT.storeW (vs := [vi _, vi _]) rfl Sz156 rfl rfl (Cl.c rfl) rfl rfl (OneC.c rfl) ?_)
 refine RG.nil (WP.sr (RG.p (PV.loadW rfl Ag87 rfl rfl) (RG.p (PV.field rfl Fo101_2 rfl) (RG.p (PV.load1 rfl Sc2 rfl (Rd.blk rfl)) (RG.p (PV.field rfl Fo101_3 rfl) (RG.p (PV.load1 rfl Sc2 rfl (Rd.blk rfl)) (RG.p (PV.build (vs := [(0, [vi _]), (1, [vi _])]) (out := [_, _]) rfl Zr156 Pl156 ⟨rfl, (Cl.c rfl), ⟨rfl, (Cl.c rfl), trivial⟩⟩ rfl) ?_)))))))
 refine RG.callF (vs := [_, _]) rfl rfl En189 rfl (move_r (p := ⟨_, _⟩) ho ht (by first | exact (RIn_pts hr).1 | exact (RIn_pts hr).2) ?_)
 refine RG.ot rfl (OT.alloc rfl Zr156 fun b6 => ?_)
 refine RG.ot rfl (OT.storeW (vs := [vi _, vi _]) rfl Sz156 rfl rfl (Cl.c rfl) rfl rfl (OneC.c rfl) ?_)
 refine RG.nil (WP.sr (RG.p (PV.field rfl Fo156_0 rfl) (RG.p (PV.load1 rfl Sc2 rfl (Rd.blk rfl)) (RG.p (PV.field rfl Fo156_0 rfl) (RG.p (PV.load1 rfl Sc2 rfl (Rd.blk rfl)) (RG.p (PV.min2 rfl rfl rfl) (RG.p (PV.field rfl Fo156_1 rfl) (RG.p (PV.load1 rfl Sc2 rfl (Rd.blk rfl)) (RG.p (PV.field rfl Fo156_1 rfl) (RG.p (PV.load1 rfl Sc2 rfl (Rd.blk rfl)) (RG.p (PV.min2 rfl rfl rfl) (RG.p (PV.field rfl Fo156_0 rfl) ?_))))))))))))
 refine RG.p (PV.load1 rfl Sc2 rfl (Rd.blk rfl)) (RG.p (PV.field rfl Fo156_0 rfl) (RG.p (PV.load1 rfl Sc2 rfl (Rd.blk rfl)) (RG.p (PV.max2 rfl rfl rfl) (RG.p (PV.field rfl Fo156_1 rfl) (RG.p (PV.load1 rfl Sc2 rfl (Rd.blk rfl)) (RG.p (PV.field rfl Fo156_1 rfl) (RG.p (PV.load1 rfl Sc2 rfl (Rd.blk rfl)) (RG.p (PV.max2 rfl rfl rfl) (RG.p (PV.build (vs := [(0, [vi _]), (1, [vi _]), (2, [vi _]), (3, [vi _])]) (out := [_, _, _, _]) rfl Zr101 Pl101 ⟨rfl, (Cl.c rfl), ⟨rfl, (Cl.c rfl), ⟨rfl, (Cl.c rfl), ⟨rfl, (Cl.c rfl), trivial⟩⟩⟩⟩ rfl) ?_)))))))))
 refine RG.ot rfl (OT.storeW (vs := [vi _, vi _, vi _, vi _]) rfl Sz101 rfl rfl (Cl.c rfl) rfl rfl (OneC.c rfl) ?_)
 refine RG.nil ?_
 exact WP.ret ⟨_, _, ResV.one rfl (RV1.cell rfl Ag101 rfl), Cv.p, k⟩
theorem RIn_valid {r : Rect} : validRect r = true ↔ RIn 40 r := by simp [validRect, RIn]; omega
theorem RIn_all {xs : List Rect} (h : isReg xs = true) : ∀ r ∈ xs, RIn 40 r := by
 have := isReg_valid h
 simp only [validRs, Bool.and_eq_true, List.all_eq_true] at this
 exact fun r hr => RIn_valid.1 (this.2 r hr)
theorem boxOf_s {v : Value} {xs : List Rect} (h1 : Rs G L rectT v xs) (h0 : 0 < xs.length) (k : R (vrect (boxL xs)) G L) : CallT Tryz.prog 147 #[v] G L R := by
 refine CallT.bd h1 fun hb => ?_
 refine CallT.enter (args := _) Tryz.func147 rfl rfl (by kernel_rfl) rfl ?_
 refine WP.sr ?_
 refine RG.ot rfl (OT.alloc rfl Zr101 fun b2 => ?_)
 refine RG.nil (WP.sr (RG.p (PV.move (v := v) rfl rfl) (RG.p (PV.idxS (j := 0) (v := v) rfl Is50 rfl (SlF.r h1) rfl (by omega) (by omega)) (RG.p (PV.loadE rfl Ag101 rfl rfl (El.r h1 (getG (by omega)))) ?_))))
 refine RG.ot rfl (OT.alloc rfl Zr101 fun b3 => ?_)
 refine RG.ot rfl (OT.storeW (vs := [vi _, vi _, vi _, vi _]) rfl Sz101 rfl rfl (Cl.c rfl) rfl rfl (OneC.c rfl) ?_)
 refine RG.nil (WP.seq (WP.sr (RG.p (PV.move (v := v) rfl rfl) (RG.p (PV.len (v := v) rfl Tryz.underlying50 rfl (SlF.r h1)) (RG.ml rfl (RG.nil (WP.block ?_)))))))
 refine WP.loop2 [2, 3, 9, 10] (fun (i : Nat) (a : Rect) => i <= xs.length ∧ a = boxFrom (gd xs 0) (xs.take i)) (fun (i : Nat) (a : Rect) => [(11, vi i)]) (fun (i : Nat) (a : Rect) => blk b3 101 (rectT.enc a) :: blk b2 101 [vi 0, vi 0, vi 0, vi 0] :: L) (fun (i : Nat) (a : Rect) => xs.length - i) 0 (gd xs 0) ⟨by omega, rfl⟩ ⟨rfl, trivial⟩ Cv.p ?_
 rintro i a τ ⟨hi, ha⟩
 refine WP.sr (RG.p (PV.lss rfl rfl rfl) (RG.nil (WP.seq ?_)))
 refine WP.cond rfl (fun h2 => ?_) fun h2 => ?_
 ·have h2 := odt h2
  refine WP.skip (WP.seq (WP.block (WP.sr (RG.p (PV.idxS (v := v) rfl Is50 rfl (SlF.r h1) rfl rfl (by omega)) (RG.p (PV.loadE rfl Ag101 rfl rfl (El.r h1 (getG (by omega)))) ?_)))))
  refine RG.ot rfl (OT.alloc rfl Zr101 fun b5 => ?_)
  refine RG.ot rfl (OT.storeW (vs := [vi _, vi _, vi _, vi _]) rfl Sz101 rfl rfl (Cl.c rfl) rfl rfl (OneC.c rfl) ?_)
  refine RG.nil (WP.region (RG.p (PV.field rfl Fo101_0 rfl) (RG.p (PV.load1 rfl Sc2 rfl (Rd.blk rfl)) (RG.p (PV.field rfl Fo101_0 rfl) (RG.p (PV.load1 rfl Sc2 rfl (Rd.blk rfl)) (RG.p (PV.min2 rfl rfl rfl) (RG.p (PV.field rfl Fo101_1 rfl) (RG.p (PV.load1 rfl Sc2 rfl (Rd.blk rfl)) (RG.p (PV.field rfl Fo101_1 rfl) (RG.p (PV.load1 rfl Sc2 rfl (Rd.blk rfl)) (RG.p (PV.min2 rfl rfl rfl) (RG.p (PV.field rfl Fo101_2 rfl) (RG.p (PV.load1 rfl Sc2 rfl (Rd.blk rfl)) ?_)))))))))))))
  refine RG.p (PV.field rfl Fo101_2 rfl) (RG.p (PV.load1 rfl Sc2 rfl (Rd.blk rfl)) (RG.p (PV.max2 rfl rfl rfl) (RG.p (PV.field rfl Fo101_3 rfl) (RG.p (PV.load1 rfl Sc2 rfl (Rd.blk rfl)) (RG.p (PV.field rfl Fo101_3 rfl) (RG.p (PV.load1 rfl Sc2 rfl (Rd.blk rfl)) (RG.p (PV.max2 rfl rfl rfl) (RG.p (PV.build (vs := [(0, [vi _]), (1, [vi _]), (2, [vi _]), (3, [vi _])]) (out := [_, _, _, _]) rfl Zr101 Pl101 ⟨rfl, (Cl.c rfl), ⟨rfl, (Cl.c rfl), ⟨rfl, (Cl.c rfl), ⟨rfl, (Cl.c rfl), trivial⟩⟩⟩⟩ rfl) ?_))))))))
  refine RG.ot rfl (OT.storeW (vs := [vi _, vi _, vi _, vi _]) rfl Sz101 rfl rfl (Cl.c rfl) rfl rfl (OneC.c rfl) ?_)
  refine RG.nil (WP.region (RG.p (PV.add rfl rfl rfl (by omega)) (RG.ml rfl (RG.nil ?_))))
  exact ⟨rfl, i + 1, (joinR a (gd xs i)), ⟨by omega, by rw [boxFrom_take (by omega), ha]⟩, ⟨rfl, trivial⟩, ⟨rfl, rfl, rfl, rfl, trivial⟩, Cv.p, by omega⟩
 ·have h2 := odf h2
  have e : a = boxL xs := by rw [ha, List.take_of_length_le (by omega)]; rfl
  rw [<- e] at k
  refine WP.exit (WP.sr (RG.p (PV.loadW rfl Ag101 rfl rfl) ?_))
  refine RG.ot rfl (OT.storeW (vs := [vi _, vi _, vi _, vi _]) rfl Sz101 rfl rfl (Cl.c rfl) rfl rfl (OneC.c rfl) ?_)
  refine RG.nil ?_
  exact WP.ret ⟨_, _, ResV.one rfl (RV1.cell rfl Ag101 rfl), Cv.p, k⟩
def movedOk (t : Trans) (xs : List Rect) : Bool := xs.all fun r => validRect (moveR t r)
def OIn (o : Int) : Prop := 0 <= o ∧ o <= 7
def validT (t : Trans) : Bool := within t.o 0 7 && (within t.x (-80) 80 && within t.y (-80) 80)
theorem validT_iff {t : Trans} : validT t = true ↔ (0 <= t.o ∧ t.o <= 7) ∧ (-80 <= t.x ∧ t.x <= 80) ∧ -80 <= t.y ∧ t.y <= 80 := by
 simp only [validT, within, Bool.and_eq_true, decide_eq_true_eq]
def mvOk (t : Trans) (xs : List Rect) : Bool := validT t && isReg xs && movedOk t xs
def cellB (S : List Bool) (x y : Int) : Bool := (decide (-40 <= x ∧ x < 40) && decide (-40 <= y ∧ y < 40)) && gd S ((y + 40) * 80 + x + 40).toNat
theorem cellB_in {S : List Bool} {x y : Int} (h : -40 <= x ∧ x < 40 ∧ -40 <= y ∧ y < 40) : cellB S x y = gb S (y + 40).toNat (x + 40).toNat := by
 have e : ((y + 40) * 80 + x + 40).toNat = (y + 40).toNat * 80 + (x + 40).toNat := by omega
 rw [cellB, decide_eq_true (by omega), decide_eq_true (by omega), e]; rfl
theorem cellB_out {S : List Bool} {x y : Int} (h : ¬ (-40 <= x ∧ x < 40 ∧ -40 <= y ∧ y < 40)) : cellB S x y = false := by
 rw [cellB]
 by_cases c : -40 <= x ∧ x < 40
 ·rw [decide_eq_false (p := -40 <= y ∧ y < 40) (by omega)]; simp
 ·rw [decide_eq_false c]; simp
theorem canon_empty {bs : List Bool} (hl : bs.length = 6400) : canon bs = [] ↔ ∀ y x, y < 80 -> x < 80 -> gb bs y x = false := by
 constructor
 ·intro h y x hy hx
  have := canon_any (bs := bs) hy hx
  rw [h] at this
  simpa using this.symm
 ·intro h
  cases e : canon bs with
  | nil => rfl
  | cons r rs =>
   exfalso
   have hr := RIn_all (isReg_canon hl) r (by rw [e]; exact .head _)
   obtain ⟨h1, h2, h3, h4, h5, h6⟩ := hr
   have hy : (r.y0 + 40).toNat < 80 := by omega
   have hx : (r.x0 + 40).toNat < 80 := by omega
   have := canon_any (bs := bs) hy hx
   rw [h _ _ hy hx, e, List.any_cons, inR_iff.2 (by omega)] at this
   simp at this
def Regs (ys : List (Sl Rect)) : Prop := ∀ s ∈ ys, isReg s.xs = true
theorem isReg_nil : isReg [] = true := by
 have h : canon (bits []) = [] := (canon_empty (bits_length _)).2 fun y x hy hx => by rw [gb_bits' _ hy hx]; rfl
 have := isReg_canon (bits_length [])
 rwa [h] at this
set_option maxHeartbeats 2000000
abbrev Pl := Int × Int
def OkP (p : Pl) : Prop := 0 <= p.1 ∧ 0 <= p.2 ∧ p.2 < 2147483647
def nx (bs : List UInt8) (p : Pl) (n : Int) : Int × Pl :=
  if n <= 1 then (0, p) else if p.1 < (bs.length : Int) then
    (if 256 < n then (((p.2 * 48271 + ((gd bs p.1.toNat).toNat : Int) + 1) % 2147483647) % n, (p.1 + 1, (p.2 * 48271 + ((gd bs p.1.toNat).toNat : Int) + 1) % 2147483647)) else (((gd bs p.1.toNat).toNat : Int) % n, (p.1 + 1, p.2)))
  else (((p.2 * 48271 + 11) % 2147483647) / 7 % n, (p.1, (p.2 * 48271 + 11) % 2147483647))
abbrev sPl (b : Nat) (cv : Value) (p : Pl) : Ch := blk b 105 [cv, vi p.1, vi p.2]
theorem nextP_s {b : Nat} {n : Int} {cv : Value} {bs : List UInt8} {p : Pl} (hcode : SL G byteT cv bs) (hp : OkP p) (hn : n <= 4611686018427387904) (k : ∀ r p', nx bs p n = (r, p') -> OkP p' -> 0 <= r ∧ (r < n ∨ r = 0) -> R (vi r) G (sPl b cv p' :: L)) : CallT Tryz.prog 57 #[.pointer (some ⟨b, 0, none⟩), vi n] G (sPl b cv p :: L) R := by
 obtain ⟨x, y⟩ := p
 obtain ⟨hx, hy0, hy1⟩ := hp
 simp only at hx hy0 hy1
 have hbl := hcode.bound
 refine CallT.enter (args := _) Tryz.func57 rfl rfl (by kernel_rfl) rfl ?_
 refine WP.sr (RG.mr rfl (RG.nil (WP.seq (WP.sr (RG.ml rfl (RG.p (PV.leq rfl rfl rfl) (RG.nil ?_)))))))
 refine WP.cond rfl (fun h1 => ?_) fun h1 => ?_
 ·have h1 := odt h1
  refine WP.sr (RG.mr rfl (RG.nil ?_))
  exact WP.ret ⟨_, _, rv rfl rfl, Cv.p, k 0 (x, y) (by rw [nx, if_pos h1]) ⟨hx, hy0, hy1⟩ ⟨by omega, .inr rfl⟩⟩
 ·have h1 := odf h1
  refine WP.skip (WP.seq (WP.seq ?_))
  refine WP.regionQ (by kernel_rfl) (by kernel_rfl) ?_
  refine RQ.pv rfl (PV.mvP (.inl rfl) rfl) (RQ.pv rfl (PV.nilc rfl rfl) (RQ.pv rfl (PV.field rfl Fo105_1 rfl) (RQ.pv rfl (PV.load1 rfl Sc3 rfl (Rd.blk rfl)) (RQ.pv rfl (PV.mvP (.inl rfl) rfl) (RQ.pv rfl (PV.nilc rfl rfl) (RQ.pv rfl (PV.field rfl Fo105_0 rfl) (RQ.pv rfl (PV.load1 rfl Sc22 rfl (Rd.blk rfl)) (RQ.pv rfl (PV.len rfl Tryz.underlying22 rfl (SlF.r (Rs.g (L := []) hcode))) (RQ.pv rfl (PV.lss rfl rfl rfl) (RQ.nil ?_))))))))))
  refine WP.cond rfl (fun h2 => ?_) fun h2 => ?_
  ·have h2 := odt h2
   have hc := (gd bs x.toNat).toNat_lt
   refine WP.seq ?_
   refine WP.regionQ (by kernel_rfl) (by kernel_rfl) ?_
   refine RQ.pv rfl (PV.mvP (.inl rfl) rfl) (RQ.pv rfl (PV.nilc rfl rfl) (RQ.pv rfl (PV.field rfl Fo105_0 rfl) (RQ.pv rfl (PV.load1 rfl Sc22 rfl (Rd.blk rfl)) (RQ.pv rfl (PV.mvP (.inl rfl) rfl) (RQ.pv rfl (PV.nilc rfl rfl) (RQ.pv rfl (PV.field rfl Fo105_1 rfl) (RQ.pv rfl (PV.load1 rfl Sc3 rfl (Rd.blk rfl)) (RQ.pv rfl (PV.idxS (j := x.toNat) rfl Is22 rfl (SlF.r (Rs.g (L := []) hcode)) rfl (by omega) (by omega)) (RQ.pv rfl (PV.loadE1 rfl Sc5 rfl rfl (El.r (Rs.g (L := []) hcode) (getG (by omega))) rfl) (RQ.pv rfl (PV.conv rfl ⟨_, Tryz.underlying5⟩ Tryz.underlying2 rfl (u8i _)) (RQ.pv rfl (PV.mvI (.inr rfl) rfl) (RQ.nil (WP.seq ?_)))))))))))))
   refine WP.region (RG.p (PV.mvP (.inl rfl) rfl) (RG.p (PV.nilc rfl rfl) (RG.p (PV.field rfl Fo105_1 rfl) (RG.p (PV.load1 rfl Sc3 rfl (Rd.blk rfl)) (RG.p (PV.add rfl rfl rfl (by first | omega | exact u8add (by omega))) (RG.p (PV.nilc rfl rfl) (RG.p (PV.field rfl Fo105_1 rfl) ?_)))))))
   refine RG.ot rfl (OT.storeB (vs := [vi _]) (cs' := [_, _, _]) rfl Sz3 rfl rfl (Cl.c rfl) rfl (OneC.c rfl) rfl rfl ?_)
   refine RG.nil (WP.seq (WP.sr (RG.ml rfl (RG.p (PV.gtr rfl rfl rfl) (RG.nil ?_)))))
   refine WP.cond rfl (fun h3 => ?_) fun h3 => ?_
   ·have h3 := odt h3
    refine WP.sr (RG.p (PV.mvP (.inl rfl) rfl) (RG.p (PV.mvP (.inl rfl) rfl) (RG.p (PV.nilc rfl rfl) (RG.p (PV.field rfl Fo105_2 rfl) (RG.p (PV.load1 rfl Sc2 rfl (Rd.blk rfl)) (RG.p (PV.mul rfl rfl rfl (by omega)) (RG.ml rfl (RG.p (PV.add rfl rfl rfl (by first | omega | exact u8add (by omega))) (RG.p (PV.add rfl rfl rfl (by first | omega | exact u8add (by omega))) (RG.p (PV.rem rfl rfl rfl (by omega) (by omega) (by omega)) (RG.p (PV.nilc rfl rfl) (RG.p (PV.field rfl Fo105_2 rfl) ?_))))))))))))
    refine RG.ot rfl (OT.storeB (vs := [vi _]) (cs' := [_, _, _]) rfl Sz2 rfl rfl (Cl.c rfl) rfl (OneC.c rfl) rfl rfl ?_)
    refine RG.nil (WP.sr (RG.p (PV.mvP (.inl rfl) rfl) (RG.p (PV.nilc rfl rfl) (RG.p (PV.field rfl Fo105_2 rfl) (RG.p (PV.load1 rfl Sc2 rfl (Rd.blk rfl)) (RG.ml rfl (RG.p (PV.rem rfl rfl rfl (by omega) (by omega) (by omega)) (RG.mr rfl (RG.nil ?_)))))))))
    exact WP.ret ⟨_, _, rv rfl rfl, Cv.p, k (((y * 48271 + ((gd bs x.toNat).toNat : Int) + 1) % 2147483647) % n) (x + 1, (y * 48271 + ((gd bs x.toNat).toNat : Int) + 1) % 2147483647) (by rw [nx, if_neg h1, if_pos h2, if_pos h3]) ⟨by simp only; omega, by simp only; omega, by simp only; omega⟩ ⟨Int.emod_nonneg _ (by omega), .inl (Int.emod_lt_of_pos _ (by omega))⟩⟩
   ·have h3 := odf h3
    refine WP.skip (WP.sr (RG.ml rfl (RG.ml rfl (RG.p (PV.rem rfl rfl rfl (by omega) (by omega) (by omega)) (RG.mr rfl (RG.nil ?_))))))
    exact WP.ret ⟨_, _, rv rfl rfl, Cv.p, k (((gd bs x.toNat).toNat : Int) % n) (x + 1, y) (by rw [nx, if_neg h1, if_pos h2, if_neg h3]) ⟨by simp only; omega, by simp only; omega, by simp only; omega⟩ ⟨Int.emod_nonneg _ (by omega), .inl (Int.emod_lt_of_pos _ (by omega))⟩⟩
  ·have h2 := odf h2
   refine WP.skip (WP.sr (RG.p (PV.mvP (.inl rfl) rfl) (RG.p (PV.mvP (.inl rfl) rfl) (RG.p (PV.nilc rfl rfl) (RG.p (PV.field rfl Fo105_2 rfl) (RG.p (PV.load1 rfl Sc2 rfl (Rd.blk rfl)) (RG.p (PV.mul rfl rfl rfl (by omega)) (RG.p (PV.add rfl rfl rfl (by omega)) (RG.p (PV.rem rfl rfl rfl (by omega) (by omega) (by omega)) (RG.p (PV.nilc rfl rfl) (RG.p (PV.field rfl Fo105_2 rfl) ?_)))))))))))
   refine RG.ot rfl (OT.storeB (vs := [vi _]) (cs' := [_, _, _]) rfl Sz2 rfl rfl (Cl.c rfl) rfl (OneC.c rfl) rfl rfl ?_)
   refine RG.nil (WP.sr (RG.p (PV.mvP (.inl rfl) rfl) (RG.p (PV.nilc rfl rfl) (RG.p (PV.field rfl Fo105_2 rfl) (RG.p (PV.load1 rfl Sc2 rfl (Rd.blk rfl)) (RG.p (PV.quo rfl rfl rfl (by omega) (by omega) (by omega)) (RG.ml rfl (RG.p (PV.rem rfl rfl rfl (by omega) (by omega) (by omega)) (RG.mr rfl (RG.nil ?_))))))))))
   exact WP.ret ⟨_, _, rv rfl rfl, Cv.p, k (((y * 48271 + 11) % 2147483647) / 7 % n) (x, (y * 48271 + 11) % 2147483647) (by rw [nx, if_neg h1, if_neg h2]) ⟨by simp only; omega, by simp only; omega, by simp only; omega⟩ ⟨Int.emod_nonneg _ (by omega), .inl (Int.emod_lt_of_pos _ (by omega))⟩⟩
def seedS (y : Int) (c : UInt8) : Int := (y * 31 + (c.toNat : Int)) % 2147483647
def fr (bs : List UInt8) : Pl := (0, (bs.take 64).foldl seedS 12345)
theorem seed_bd (l : List UInt8) : ∀ y, 0 <= y ∧ y < 2147483647 -> 0 <= l.foldl seedS y ∧ l.foldl seedS y < 2147483647 := by
 induction l with
 | nil => exact fun y h => h
 | cons c l ih => exact fun y h => ih _ (by simp only [seedS]; omega)
theorem fr_ok (bs : List UInt8) : OkP (fr bs) := by
 have := seed_bd (bs.take 64) 12345 (by omega)
 exact ⟨by simp [fr], this.1, this.2⟩
theorem fromP_s {cv : Value} {bs : List UInt8} (hcode : SL G byteT cv bs) (k : ∀ b, R (.pointer (some ⟨b, 0, none⟩)) G (sPl b cv (fr bs) :: L)) : CallT Tryz.prog 25 #[cv] G L R := by
 have hbl := hcode.bound
 refine CallT.enter (args := _) Tryz.func25 rfl rfl (by kernel_rfl) rfl ?_
 refine WP.sr (RG.p (PV.asg rfl rfl) (RG.nil (WP.sr (RG.p (PV.move (v := cv) rfl rfl) (RG.p (PV.build (vs := [(0, [cv]), (2, [vi _])]) (out := [_, _, _]) rfl Zr105 Pl105 ⟨rfl, (Cl.s (SlF.r (Rs.g (L := []) hcode))), ⟨rfl, (Cl.c rfl), trivial⟩⟩ rfl) ?_)))))
 refine RG.ot rfl (OT.box (cs := [cv, vi 0, vi 12345]) rfl rfl rfl fun b7 => ?_)
 refine RG.p (PV.mvP (.inr rfl) rfl) (RG.nil (WP.seq (WP.sr (RG.mr rfl (RG.nil (WP.block ?_))))))
 refine WP.loop2 [0, 3] (fun (i : Nat) (y : Int) => (i <= 64 ∧ i <= bs.length) ∧ y = (bs.take i).foldl seedS 12345) (fun (i : Nat) (y : Int) => [(4, vi i)]) (fun (i : Nat) (y : Int) => blk b7 105 [cv, vi 0, vi y] :: L) (fun (i : Nat) (y : Int) => 64 - i) 0 12345 ⟨by omega, by simp⟩ ⟨rfl, trivial⟩ Cv.p ?_
 rintro i y τ ⟨hi, hy⟩
 refine WP.seq (WP.sr (RG.ml rfl (RG.p (PV.move (v := cv) rfl rfl) (RG.p (PV.len (v := cv) rfl Tryz.underlying22 rfl (SlF.r (Rs.g (L := []) hcode))) (RG.p (PV.lss rfl rfl rfl) (RG.bl rfl ?_))))))
 refine RG.g rfl (fun hp => (PV.mvI (.inl rfl) rfl)) ?_
 refine RG.g rfl (fun hp => (PV.lss rfl (gt' hp) rfl)) ?_
 refine RG.p (PV.pickA rfl rfl (fun hq => gt' (geqT hq)) rfl) (RG.nil ?_)
 have hyb := seed_bd (bs.take i) 12345 (by omega)
 rw [<- hy] at hyb
 refine WP.cond rfl (fun h2 => ?_) fun h2 => ?_
 ·simp only [Bool.and_eq_true, decide_eq_true_eq] at h2
  have hc := (gd bs i).toNat_lt
  have hn : (bs.take (i + 1)).foldl seedS 12345 = (y * 31 + ((gd bs i).toNat : Int)) % 2147483647 := by
   rw [List.take_add_one, getG (by omega), List.foldl_append, <- hy]; rfl
  refine WP.skip (WP.seq (WP.block ?_))
  refine WP.regionHD [.b b7] (.q 0 (.q 1 (.q 2 (.q 3 (.q 6 (.q 7 (.q 8 (.q 9 (.q 10 (.l 4 (.q 5 (.q 11 (.q 12 (.q 13 (.q 14 (.l 15 Sch.nil)))))))))))))))) (by kernel_rfl) (by kernel_rfl) (by kernel_rfl) rfl ?_
  refine RH.w rfl rfl (PV.mvP (.inl rfl) rfl) (RH.w rfl rfl (PV.mvP (.inl rfl) rfl) (RH.w rfl rfl (PV.nilc rfl rfl) (RH.w rfl rfl (PV.field rfl Fo105_2 rfl) (RH.w rfl rfl (PV.move (v := cv) rfl rfl) (RH.w rfl rfl (PV.mvI (.inl rfl) rfl) (RH.w rfl rfl (PV.idxS (v := cv) rfl Is22 rfl (SlF.r (Rs.g (L := []) hcode)) rfl rfl (by omega)) (RH.w rfl rfl (PV.loadE1 rfl Sc5 rfl rfl (El.r (Rs.g (L := []) hcode) (getG (by omega))) rfl) (RH.w rfl rfl (PV.conv rfl ⟨_, Tryz.underlying5⟩ Tryz.underlying2 rfl (u8i _)) ?_))))))))
  refine RH.ot rfl rfl (OT.pv (PV.load1 rfl Sc2 rfl (Rd.blk rfl)) (kp ?_))
  refine RH.w rfl rfl (PV.mul rfl rfl rfl (by omega)) (RH.w rfl rfl (PV.add rfl rfl rfl (by first | omega | exact u8add (by omega))) (RH.w rfl rfl (PV.rem rfl rfl rfl (by omega) (by omega) (by omega)) (RH.w rfl rfl (PV.nilc rfl rfl) (RH.w rfl rfl (PV.field rfl Fo105_2 rfl) ?_))))
  refine RH.ot rfl rfl (OT.storeB (vs := [vi _]) (cs' := [_, _, _]) rfl Sz2 rfl rfl (Cl.c rfl) rfl (OneC.c rfl) rfl rfl (kp ?_))
  refine RH.nil (WP.region (RG.ml rfl (RG.p (PV.add rfl rfl rfl (by first | omega | exact u8add (by omega))) (RG.mr rfl (RG.nil ?_)))))
  exact ⟨rfl, i + 1, ((y * 31 + ((gd bs i).toNat : Int)) % 2147483647), ⟨by omega, hn.symm⟩, ⟨rfl, trivial⟩, ⟨rfl, rfl, trivial⟩, Cv.p, by omega⟩
 ·have h2 : ¬ ((i : Int) < bs.length ∧ (i : Int) < 64) := by
   intro h3
   simp [h3.1, h3.2] at h2
  have e : fr bs = (0, y) := by
   rw [fr, hy]
   by_cases c : i = 64
   ·rw [c]
   ·rw [List.take_of_length_le (show bs.length <= 64 by omega), List.take_of_length_le (show bs.length <= i by omega)]
  rw [e] at k
  refine WP.exit (WP.sr (RG.p (PV.mvP (.inl rfl) rfl) (RG.p (PV.mvP (.inr rfl) rfl) (RG.nil ?_))))
  exact WP.ret ⟨_, _, rv rfl rfl, Cv.p, k b7⟩
def nps (zs : List Net) : List (Sl Piece) := zs.map Net.pieces
def one (b : Bool) : Int := bif b then 1 else 0
theorem one_and (a b : Bool) : one (a && b) = one a * one b := by cases a <;> cases b <;> rfl
theorem one_nn (b : Bool) : 0 <= one b ∧ one b <= 1 := by cases b <;> simp [one]
def sumF (f : Nat -> Int) : Nat -> Int
  | 0 => 0
  | n + 1 => sumF f n + f n
def cntF (f : Nat -> Bool) (n : Nat) : Int := sumF (fun k => one (f k)) n
theorem cntF_succ (f : Nat -> Bool) (n : Nat) : cntF f (n + 1) = cntF f n + one (f n) := rfl
theorem cntF_bd (f : Nat -> Bool) : ∀ n, 0 <= cntF f n ∧ cntF f n <= n
 | 0 => by simp [cntF, sumF]
 | n + 1 => by
  have := cntF_bd f n
  have := one_nn (f n)
  rw [cntF_succ]; omega
theorem sumF_congr {f g : Nat -> Int} : ∀ {n : Nat}, (∀ k, k < n -> f k = g k) -> sumF f n = sumF g n
 | 0, _ => rfl
 | n + 1, h => by rw [sumF, sumF, sumF_congr fun k hk => h k (by omega), h n (by omega)]
theorem sumF_mul (f : Nat -> Int) (c : Int) : ∀ n, sumF (fun k => f k * c) n = sumF f n * c
 | 0 => by simp [sumF]
 | n + 1 => by rw [sumF, sumF, sumF_mul f c n, Int.add_mul]
theorem sumF_bd {f : Nat -> Int} {B : Int} (h : ∀ k, 0 <= f k ∧ f k <= B) : ∀ n, 0 <= sumF f n ∧ sumF f n <= n * B
 | 0 => by simp [sumF]
 | n + 1 => by
  have h1 := sumF_bd h n
  have h2 := h n
  rw [sumF, Int.natCast_add, Int.add_mul]; omega
theorem cntF_between (a b c : Int) : ∀ n, cntF (fun k => decide (a <= b + k) && decide (b + k < c)) n = max 0 (min c (b + n) - max a b)
 | 0 => by simp only [cntF, sumF]; omega
 | n + 1 => by
  rw [cntF_succ, cntF_between a b c n]
  by_cases h1 : a <= b + n <;> by_cases h2 : b + (n : Int) < c
  ·rw [decide_eq_true h1, decide_eq_true h2]; simp only [one, Bool.and_self, cond_true]; omega
  ·rw [decide_eq_true h1, decide_eq_false h2]; simp only [one, Bool.and_false, cond_false]; omega
  ·rw [decide_eq_false h1, decide_eq_true h2]; simp only [one, Bool.false_and, cond_false]; omega
  ·rw [decide_eq_false h1, decide_eq_false h2]; simp only [one, Bool.false_and, cond_false]; omega
theorem costL_add {α : Type} (f g : α -> Int) : ∀ xs : List α, costL (fun x => f x + g x) xs = costL f xs + costL g xs
 | [] => by simp [costL]
 | x :: xs => by simp only [costL, costL_add f g xs]; omega
theorem costL_congr {α : Type} {f g : α -> Int} : ∀ {xs : List α}, (∀ x ∈ xs, f x = g x) -> costL f xs = costL g xs
 | [], _ => rfl
 | x :: xs, h => by rw [costL, costL, h x (.head _), costL_congr fun y hy => h y (.tail _ hy)]
theorem costL_zero {α : Type} (xs : List α) : costL (fun _ => 0) xs = 0 := by rw [costL_const]; simp
theorem sumF_costL {α : Type} (f : Nat -> α -> Int) (xs : List α) : ∀ n, sumF (fun k => costL (f k) xs) n = costL (fun x => sumF (fun k => f k x) n) xs
 | 0 => by simp [sumF, costL_zero]
 | n + 1 => by rw [sumF, sumF_costL f xs n, <- costL_add]; rfl
theorem one_any {α : Type} {p : α -> Bool} : ∀ {xs : List α}, xs.Pairwise (fun a b => ¬ (p a = true ∧ p b = true)) -> one (xs.any p) = costL (fun x => one (p x)) xs
 | [], _ => rfl
 | x :: xs, h => by
  rw [List.pairwise_cons] at h
  rw [List.any_cons, costL, <- one_any h.2]
  cases hp : p x
  ·simp [one]
  ·have : xs.any p = false := by
    rw [List.any_eq_false]; intro y hy hq; exact h.1 y hy ⟨hp, hq⟩
   rw [this]; rfl
theorem runs_ge (r : Nat -> Bool) (x : Nat) : ∀ p ∈ runsFrom r x, x <= p.1 := by
 intro p hp
 rw [runsFrom] at hp
 by_cases h : x < 80
 ·rw [if_pos h] at hp
  by_cases hr : r x = true
  ·rw [if_pos hr] at hp
   have h1 := runEnd_ge r (x + 1)
   rcases List.mem_cons.1 hp with rfl | hp
   ·exact Nat.le_refl _
   ·have := runs_ge r _ p hp; omega
  ·rw [if_neg hr] at hp; have := runs_ge r _ p hp; omega
 ·rw [if_neg h] at hp; cases hp
termination_by 80 - x
decreasing_by
 ·have := runEnd_ge r (x + 1); omega
 ·omega
theorem runs_apart (r : Nat -> Bool) (x : Nat) : (runsFrom r x).Pairwise fun p q => p.2 <= q.1 := by
 rw [runsFrom]
 split
 ·split
  ·rw [List.pairwise_cons]
   have h1 := runEnd_ge r (x + 1)
   refine ⟨fun q hq => ?_, runs_apart r _⟩
   have := runs_ge r _ q hq; simp only; omega
  ·exact runs_apart r (x + 1)
 ·exact .nil
termination_by 80 - x
decreasing_by
 ·have := runEnd_ge r (x + 1); omega
 ·omega
theorem canonFrom_ge (bs : List Bool) (y : Nat) : ∀ r ∈ canonFrom bs y, (y : Int) - 40 <= r.y0 := by
 intro r hr
 rw [canonFrom] at hr
 by_cases h : y < 80
 ·rw [if_pos h] at hr
  have h1 := endFrom_ge bs y (y + 1)
  rcases List.mem_append.1 hr with hr | hr
  ·obtain ⟨p, hp, rfl⟩ := List.mem_map.1 hr
   simp only [mkR]; omega
  ·have := canonFrom_ge bs _ r hr; omega
 ·rw [if_neg h] at hr; cases hr
termination_by 80 - y
decreasing_by have := endFrom_ge bs y (y + 1); omega
theorem canonFrom_apart (bs : List Bool) (y : Nat) : (canonFrom bs y).Pairwise fun r q => ∀ v u, ¬ (inR r v u = true ∧ inR q v u = true) := by
 rw [canonFrom]
 split
 ·rename_i h
  have h1 := endFrom_ge bs y (y + 1)
  rw [List.pairwise_append]
  refine ⟨?_, canonFrom_apart bs _, fun r hr q hq v u => ?_⟩
  ·rw [List.pairwise_map]
   refine (runs_apart (gb bs y) 0).imp ?_
   intro p q hpq v u ⟨h1, h2⟩
   rw [inR_iff] at h1 h2; simp only [mkR] at h1 h2; omega
  ·obtain ⟨p, _, rfl⟩ := List.mem_map.1 hr
   have := canonFrom_ge bs _ q hq
   rintro ⟨h1, h2⟩
   rw [inR_iff] at h1 h2; simp only [mkR] at h1; omega
 ·exact .nil
termination_by 80 - y
decreasing_by have := endFrom_ge bs y (y + 1); omega
theorem reg_apart {xs : List Rect} (h : isReg xs = true) (v u : Nat) : xs.Pairwise fun r q => ¬ (inR r v u = true ∧ inR q v u = true) := by
 have := canonFrom_apart (bits xs) 0
 rw [show canonFrom (bits xs) 0 = canon (bits xs) from rfl, isReg_eq h] at this
 exact this.imp fun k => k v u
def wR (r : Rect) : Nat := (r.x1 - r.x0).toNat
def hR (r : Rect) : Nat := (r.y1 - r.y0).toNat
def tH (D : List Bool) (y x0 : Int) (n : Nat) : Int := cntF (fun k => cellB D (x0 + k) y) n
def covB (S : List Bool) (r : Rect) : Int := sumF (fun j => tH S (r.y0 + j) r.x0 (wR r)) (hR r)
def covI (xs : List Rect) (r : Rect) : Int := costL (fun q => if validRect (cmn q r) = true then areaR (cmn q r) else 0) xs
theorem box_count {q r : Rect} (hq : validRect q = true) (hr : validRect r = true) : sumF (fun j => cntF (fun k => (decide (q.x0 <= r.x0 + k) && decide (r.x0 + (k : Int) < q.x1)) && (decide (q.y0 <= r.y0 + j) && decide (r.y0 + (j : Int) < q.y1))) (wR r)) (hR r) = if validRect (cmn q r) = true then areaR (cmn q r) else 0 := by
 have e : ∀ j : Nat, cntF (fun k => (decide (q.x0 <= r.x0 + k) && decide (r.x0 + (k : Int) < q.x1)) && (decide (q.y0 <= r.y0 + j) && decide (r.y0 + (j : Int) < q.y1))) (wR r) = one (decide (q.y0 <= r.y0 + j) && decide (r.y0 + (j : Int) < q.y1)) * cntF (fun k => decide (q.x0 <= r.x0 + k) && decide (r.x0 + (k : Int) < q.x1)) (wR r) := fun j => by
  simp only [cntF, one_and]
  rw [<- one_and (decide (q.y0 <= r.y0 + j)), Int.mul_comm, <- sumF_mul]
 rw [sumF_congr fun j _ => e j, sumF_mul]
 show cntF _ _ * _ = _
 rw [cntF_between, cntF_between]
 rw [validR_iff] at hq hr
 have h1 : (wR r : Int) = r.x1 - r.x0 := by simp only [wR]; omega
 have h2 : (hR r : Int) = r.y1 - r.y0 := by simp only [hR]; omega
 rw [h1, h2]
 by_cases c : validRect (cmn q r) = true
 ·rw [if_pos c]
  rw [validR_iff] at c; simp only [cmn] at c
  simp only [areaR, cmn]
  rw [Int.mul_comm, show max 0 (min q.x1 (r.x0 + (r.x1 - r.x0)) - max q.x0 r.x0) = min q.x1 r.x1 - max q.x0 r.x0 by omega, show max 0 (min q.y1 (r.y0 + (r.y1 - r.y0)) - max q.y0 r.y0) = min q.y1 r.y1 - max q.y0 r.y0 by omega]
 ·rw [if_neg c]
  rw [validR_iff] at c; simp only [cmn] at c
  by_cases d : min q.x1 r.x1 <= max q.x0 r.x0
  ·rw [show max 0 (min q.x1 (r.x0 + (r.x1 - r.x0)) - max q.x0 r.x0) = 0 by omega, Int.mul_zero]
  ·rw [show max 0 (min q.y1 (r.y0 + (r.y1 - r.y0)) - max q.y0 r.y0) = 0 by omega, Int.zero_mul]
theorem cov_eq {xs : List Rect} {r : Rect} (hx : isReg xs = true) (hr : validRect r = true) : covI xs r = covB (bits xs) r := by
 have hv := isReg_valid hx
 have hr2 := validR_iff.1 hr
 have e : ∀ j, j < hR r -> tH (bits xs) (r.y0 + j) r.x0 (wR r) = costL (fun q => cntF (fun k => (decide (q.x0 <= r.x0 + k) && decide (r.x0 + (k : Int) < q.x1)) && (decide (q.y0 <= r.y0 + j) && decide (r.y0 + (j : Int) < q.y1))) (wR r)) xs := fun j hj => by
  simp only [tH, cntF]
  rw [<- sumF_costL]
  refine sumF_congr fun k hk => ?_
  have hin : -40 <= r.x0 + (k : Int) ∧ r.x0 + (k : Int) < 40 ∧ -40 <= r.y0 + (j : Int) ∧ r.y0 + (j : Int) < 40 := by
   simp only [hR, wR] at hj hk; omega
  rw [cellB_in hin, gb_bits' _ (by omega) (by omega), one_any (reg_apart hx _ _)]
  refine costL_congr fun q hq => ?_
  congr 1
  rw [Bool.eq_iff_iff, inR_iff]
  simp only [Bool.and_eq_true, decide_eq_true_eq]
  omega
 rw [covB, sumF_congr e, sumF_costL, covI]
 exact costL_congr fun q hq => (box_count (valid_mem hv hq) hr).symm
theorem unitCell_s {p : Pt} (k : R (.bool (within p.x (-40) 39 && within p.y (-40) 39)) G L) : CallT Tryz.prog 205 #[vpt p] G L R := by
 refine CallT.enter (args := _) Tryz.func205 rfl rfl (by kernel_rfl) rfl ?_
 refine WP.sr ?_
 refine RG.ot rfl (OT.box (cs := ptT.enc p) rfl rfl rfl fun b1 => ?_)
 refine RG.br rfl (RG.nil (WP.sr (RG.p (PV.field rfl Fo156_0 rfl) (RG.p (PV.load1 rfl Sc2 rfl (Rd.blk rfl)) ?_))))
 refine RG.callF (vs := [_, _, _]) rfl rfl En56 rfl (within_s ?_)
 refine RG.bl rfl ?_
 refine RG.g rfl (fun hp => (PV.field rfl Fo156_1 rfl)) ?_
 refine RG.g rfl (fun hp => (PV.load1 rfl Sc2 (gt' hp) (Rd.blk rfl))) ?_
 refine RG.gsC rfl rfl rfl rfl En56 (fun hp => ⟨_, (acons (gt' hp) (acons rfl (acons rfl anil))), within_s ⟨rfl, rfl, rfl⟩⟩) ?_
 refine RG.p (PV.pickA rfl rfl (fun hq => gt' (geqT hq)) rfl) (RG.br rfl (RG.nil ?_))
 exact WP.ret ⟨_, _, rv rfl rfl, Cv.p, k⟩
theorem cellB_within {D : List Bool} {x y : Int} : cellB D x y = (within x (-40) 39 && within y (-40) 39 && gd D (0 + (y + 40).toNat * 80 + (x + 40).toNat * 1)) := by
 by_cases h : -40 <= x ∧ x < 40 ∧ -40 <= y ∧ y < 40
 ·rw [cellB_in h, show within x (-40) 39 = true by simp [within]; omega, show within y (-40) 39 = true by simp [within]; omega, Nat.zero_add, Nat.mul_one]; rfl
 ·rw [cellB_out h]
  by_cases c : -40 <= x ∧ x < 40
  ·rw [show within y (-40) 39 = false by simp [within]; omega]; simp
  ·rw [show within x (-40) 39 = false by simp [within]; omega]; simp
theorem has_s {b : Nat} {D : List Bool} {x y : Int} (hD : D.length = 6400) (k : R (.bool (cellB D x y)) G (grd b D :: L)) : CallT Tryz.prog 194 #[.pointer (some ⟨b, 0, none⟩), vi x, vi y] G (grd b D :: L) R := by
 rw [cellB_within] at k
 refine CallT.enter (args := _) Tryz.func194 rfl rfl (by kernel_rfl) rfl ?_
 refine WP.sr (RG.br rfl (RG.nil (WP.sr (RG.ml rfl (RG.ml rfl (RG.p (PV.build (vs := [(0, [vi _]), (1, [vi _])]) (out := [_, _]) rfl Zr156 Pl156 ⟨rfl, (Cl.c rfl), ⟨rfl, (Cl.c rfl), trivial⟩⟩ rfl) ?_))))))
 refine RG.callF (vs := [_]) rfl rfl En205 rfl (unitCell_s (p := ⟨x, y⟩) ?_)
 refine RG.bl rfl ?_
 refine RG.g rfl (fun hp => (PV.mvP (.inl rfl) rfl)) ?_
 refine RG.g rfl (fun hp => (PV.mvI (.inl rfl) rfl)) ?_
 refine RG.g rfl (fun hp => (PV.add rfl (gt' hp) rfl (by first | omega | (simp [within] at hp; omega)))) ?_
 refine RG.g rfl (fun hp => (PV.mvI (.inl rfl) rfl)) ?_
 refine RG.g rfl (fun hp => (PV.add rfl (gt' hp) rfl (by first | omega | (simp [within] at hp; omega)))) ?_
 refine RG.g rfl (fun hp => (PV.nilc rfl (gt' hp))) ?_
 refine RG.g rfl (fun hp => (PV.idxA (j := (y + 40).toNat) rfl Ia125 (gt' hp) (gt' hp) (by first | omega | (simp [within] at hp; omega)) (by first | omega | (simp [within] at hp; omega)))) ?_
 refine RG.g rfl (fun hp => (PV.idxA (j := (x + 40).toNat) rfl Ia123 (gt' hp) (gt' hp) (by first | omega | (simp [within] at hp; omega)) (by first | omega | (simp [within] at hp; omega)))) ?_
 refine RG.g rfl (fun hp => (PV.loadGr rfl Sc4 (gt' hp) rfl (by first | omega | (simp [within] at hp; omega)))) ?_
 refine RG.p (PV.pickA rfl rfl (fun hq => gt' (geqT hq)) rfl) (RG.br rfl (RG.nil ?_))
 exact WP.ret ⟨_, _, rv rfl rfl, Cv.p, k⟩
theorem covered_s {v : Value} {xs : List Rect} {r : Rect} (h1 : Rs G L rectT v xs) (hl : xs.length <= 3200) (k : R (vi (covI xs r)) G L) : CallT Tryz.prog 144 #[v, vrect r] G L R := by
 have hcb : ∀ q, 0 <= (if validRect (cmn q r) = true then areaR (cmn q r) else 0) ∧ (if validRect (cmn q r) = true then areaR (cmn q r) else 0) <= 6400 := fun q => by
  split
  ·rename_i h; exact area_bd h
  ·omega
 have hnn : ∀ ys : List Rect, 0 <= covI ys r ∧ covI ys r <= 6400 * ys.length := fun ys => ⟨costL_nonneg (fun q => (hcb q).1) ys, costL_bd fun q _ => (hcb q).2⟩
 refine CallT.enter (args := _) Tryz.func144 rfl rfl (by kernel_rfl) rfl ?_
 refine WP.sr ?_
 refine RG.ot rfl (OT.box (cs := rectT.enc r) rfl rfl rfl fun b3 => ?_)
 refine RG.mr rfl (RG.nil (WP.sr (RG.mr rfl (RG.nil (WP.seq (WP.sr (RG.p (PV.move (v := v) rfl rfl) (RG.p (PV.len (v := v) rfl Tryz.underlying50 rfl (SlF.r h1)) (RG.ml rfl (RG.nil (WP.block ?_)))))))))))
 refine WP.loop2 [3, 9, 10] (fun (i : Nat) (s : Int) => i <= xs.length ∧ s = covI (xs.take i) r) (fun (i : Nat) (s : Int) => [(11, vi i), (5, vi s)]) (fun (i : Nat) (s : Int) => blk b3 101 (rectT.enc r) :: L) (fun (i : Nat) (s : Int) => xs.length - i) 0 0 ⟨by omega, by simp [covI, costL]⟩ ⟨rfl, rfl, trivial⟩ Cv.p ?_
 rintro i s τ ⟨hi, hs⟩
 refine WP.sr (RG.p (PV.lss rfl rfl rfl) (RG.nil (WP.seq ?_)))
 refine WP.cond rfl (fun h2 => ?_) fun h2 => ?_
 ·have h2 := odt h2
  have hct := costL_take (fun q => if validRect (cmn q r) = true then areaR (cmn q r) else 0) (xs := xs) (i := i) (by omega)
  have hb := hnn (xs.take i)
  have hlt : (xs.take i).length = i := by simp; omega
  rw [hlt] at hb
  refine WP.skip (WP.seq (WP.block (WP.sr (RG.p (PV.idxS (v := v) rfl Is50 rfl (SlF.r h1) rfl rfl (by omega)) (RG.p (PV.loadE rfl Ag101 rfl rfl (El.r h1 (getG (by omega)))) ?_)))))
  refine RG.ot rfl (OT.alloc rfl Zr101 fun b7 => ?_)
  refine RG.ot rfl (OT.storeW (vs := [vi _, vi _, vi _, vi _]) rfl Sz101 rfl rfl (Cl.c rfl) rfl rfl (OneC.c rfl) ?_)
  refine RG.nil (WP.sr (RG.p (PV.loadW rfl Ag101 rfl rfl) (RG.p (PV.loadW rfl Ag101 rfl rfl) ?_)))
  refine RG.callF (vs := [_, _]) rfl rfl En200 rfl (common_s ?_)
  refine RG.ot rfl (OT.alloc rfl Zr101 fun b8 => ?_)
  refine RG.ot rfl (OT.storeW (vs := [vi _, vi _, vi _, vi _]) rfl Sz101 rfl rfl (Cl.c rfl) rfl rfl (OneC.c rfl) ?_)
  refine RG.nil (WP.sr (RG.p (PV.loadW rfl Ag101 rfl rfl) ?_))
  refine RG.callF (vs := [_]) rfl rfl En67 rfl (validRect_s ?_)
  refine RG.nil ?_
  refine WP.cond rfl (fun h3 => ?_) fun h3 => ?_
  ·have hab := area_bd h3
   rw [if_pos h3] at hct
   refine WP.region (RG.ml rfl (RG.p (PV.loadW rfl Ag101 rfl rfl) ?_))
   refine RG.callF (vs := [_]) rfl rfl En145 rfl (area_s (by assumption) ?_)
   refine RG.p (PV.add rfl rfl rfl (by omega)) (RG.mr rfl (RG.nil (WP.region (RG.p (PV.add rfl rfl rfl (by omega)) (RG.ml rfl (RG.nil ?_))))))
   exact ⟨rfl, i + 1, _, ⟨by omega, by rw [hs]; exact hct.symm⟩, ⟨rfl, rfl, trivial⟩, ⟨rfl, rfl, rfl, trivial⟩, Cv.p, by omega⟩
  ·rw [if_neg (by simp [h3])] at hct
   refine WP.skip (WP.region (RG.p (PV.add rfl rfl rfl (by omega)) (RG.ml rfl (RG.nil ?_))))
   exact ⟨rfl, i + 1, _, ⟨by omega, by rw [hs]; simp only [covI]; omega⟩, ⟨rfl, rfl, trivial⟩, ⟨rfl, rfl, rfl, trivial⟩, Cv.p, by omega⟩
 ·have h2 := odf h2
  have e : covI xs r = s := by rw [hs, List.take_of_length_le (by omega)]
  rw [e] at k
  refine WP.exit (WP.sr (RG.ml rfl (RG.mr rfl (RG.nil ?_))))
  exact WP.ret ⟨_, _, rv rfl rfl, Cv.p, k⟩
def txt (bs : List UInt8) : ByteArray := ⟨bs.toArray⟩
theorem txt_size (bs : List UInt8) : (txt bs).size = bs.length := by simp [txt, ByteArray.size]
section
variable {P : Program} {σ : Nat -> Value} {G : Gh} {L : List Ch} {o : Oper}
theorem PV.convBS {T T' e : TypeId} {x : Operand} {v : Value} {bs : List UInt8} (ho : o.op = .convert T T' x) (hu : P.underlying T = some (.slice e)) (he : P.underlying e = some (.int .u8)) (hd : P.underlying T' = some .string) (hx : ev σ x = v) (h : Rs G L byteT v bs) : PV P o σ G L (.string (txt bs)) := by
 intro w hw
 obtain ⟨⟨c, hc1, hc2, hsl⟩, hg⟩ := h w hw
 rcases hsl with ⟨b, k, rfl⟩ | ⟨⟨a, rfl⟩, h0⟩
 ·have hr := run_convert_bytes_arg w T e hu he b k bs.length c (bs.map fun b => (b.toNat : Int)) (by simp) (fun i hi => by
   have := hg i (.int .u8 ((bs.map fun b => (b.toNat : Int)).getD i 0)) (by
    rw [show i = i * byteT.sz + 0 by simp [byteT]]
    refine byteT.flat_get (x := bs[i]) (List.getElem?_eq_getElem hi) ?_
    simp [byteT, hi])
   simpa [sb, so] using this) T' hd
  have e1 : strOfNums (bs.map fun b => (b.toNat : Int)) = txt bs := by
   simp only [strOfNums, txt, List.map_map]
   congr 2
   conv => rhs; rw [<- List.map_id bs]
   apply List.map_congr_left
   intro b _
   simp
  simp [execOp, ho, hx, hr, e1]
 ·have hb : bs = [] := List.eq_nil_of_length_eq_zero h0
  subst hb
  cases a with
  | none => simp [execOp, ho, hx, run_convert_bytes_nil w T e hu he _ _ T' hd, txt, ByteArray.empty, ByteArray.emptyWithCapacity]; rfl
  | some a =>
   simp only [List.length_nil] at hx
   simp [execOp, ho, hx, run_convert_bytes_string w T T' e _ _ _ hu he hd, Conv.bytesToString, loadCells, loadCellsFrom, txt, ByteArray.empty, ByteArray.emptyWithCapacity]; rfl
end
def nameByte (c : UInt8) : Bool := decide (97 <= c.toNat) && decide (c.toNat <= 122) || decide (48 <= c.toNat) && decide (c.toNat <= 57)
def isName (s : ByteArray) : Bool := decide (1 <= s.size) && decide (s.size <= 8) && decide (∀ i, i < s.size -> nameByte (bt s i) = true)
theorem isName_all {s : ByteArray} (h : ∀ i, i < s.size -> nameByte (bt s i) = true) : isName s = (decide (1 <= (s.size : Int)) && decide ((s.size : Int) <= 8)) := by
 simp only [isName, decide_eq_true h, Bool.and_true]
 congr 1 <;> (rw [decide_eq_decide]; omega)
theorem isName_not {s : ByteArray} {i : Nat} (h : i < s.size) (e : nameByte (bt s i) = false) : isName s = false := by
 simp only [isName, Bool.and_eq_false_iff, decide_eq_false_iff_not]
 exact .inr fun hh => by rw [hh i h] at e; cases e
theorem isName_i {s : ByteArray} (hs : s.size <= 9223372036854775807) (k : R (.bool (isName s)) G L) : CallT Tryz.prog 152 #[.string s] G L R := by
 refine CallT.enter (args := _) Tryz.func152 rfl rfl (by kernel_rfl) rfl ?_
 refine WP.sr (RG.br rfl (RG.nil (WP.seq (WP.sr (RG.mr rfl (RG.nil (WP.block ?_)))))))
 refine WP.loop1 [0] (fun i => i <= s.size ∧ ∀ j, j < i -> nameByte (bt s j) = true) (fun i => [(3, vi i)]) (fun i => L) (fun i => s.size - i) 0 ⟨by omega, fun j h => by omega⟩ ⟨rfl, trivial⟩ Cv.p ?_
 rintro i τ ⟨hi, hb⟩
 refine WP.seq (WP.sr (RG.ml rfl (RG.p (PV.mvS (.inl rfl) rfl) (RG.p (PV.lenS rfl Tryz.underlying9 rfl) (RG.p (PV.lss rfl rfl rfl) (RG.nil ?_))))))
 refine WP.cond rfl (fun h1 => ?_) fun h1 => ?_
 ·have h1 := odt h1
  refine WP.skip (WP.seq (WP.block (WP.sr (RG.p (PV.mvS (.inl rfl) rfl) (RG.ml rfl (RG.p (PV.idxStr rfl Tryz.underlying9 rfl rfl rfl (getBG (by omega))) (RG.p (PV.lss rfl rfl rfl) (RG.bl rfl ?_))))))))
  refine RG.g rfl (fun hp => (PV.mvS (.inl rfl) rfl)) ?_
  refine RG.g rfl (fun hp => (PV.mvI (.inl rfl) rfl)) ?_
  refine RG.g rfl (fun hp => (PV.idxStr rfl Tryz.underlying9 (gt' hp) (gt' hp) rfl (getBG (by first | omega | (simp at hp; omega))))) ?_
  refine RG.g rfl (fun hp => (PV.gtr rfl (gt' hp) rfl)) ?_
  refine RG.p (PV.pickO rfl rfl rfl (fun hq => gt' (geqF hq))) (RG.bl rfl ?_)
  refine RG.g rfl (fun hp => (PV.mvS (.inl rfl) rfl)) ?_
  refine RG.g rfl (fun hp => (PV.mvI (.inl rfl) rfl)) ?_
  refine RG.g rfl (fun hp => (PV.idxStr rfl Tryz.underlying9 (gt' hp) (gt' hp) rfl (getBG (by first | omega | (simp at hp; omega))))) ?_
  refine RG.g rfl (fun hp => (PV.lss rfl (gt' hp) rfl)) ?_
  refine RG.g rfl (fun hp => (PV.mvB (.inl rfl) (gt' hp))) ?_
  refine RG.gs2 rfl rfl rfl (fun hp => (PV.mvS (.inl rfl) rfl)) (RG.gs2 rfl rfl rfl (fun hp => (PV.mvI (.inl rfl) rfl)) (RG.gs2 rfl rfl rfl (fun hp => (PV.idxStr rfl Tryz.underlying9 (gt' hp) (gt' hp) rfl (getBG (by first | omega | (simp at hp; omega))))) (RG.gs2 rfl rfl rfl (fun hp => (PV.gtr rfl (gt' hp) rfl)) ?_)))
  refine RG.g rfl (fun hp => (PV.pickO rfl (gt' hp) rfl (fun hq => gt' (gandF hp hq)))) ?_
  refine RG.p (PV.pickA rfl rfl (fun hq => gt' (geqT hq)) rfl) (RG.nil ?_)
  refine WP.cond rfl (fun h2 => ?_) fun h2 => ?_
  ·have e : isName s = false := isName_not (i := i) (by omega) (by simp [nameByte] at h2 ⊢; omega)
   rw [e] at k
   refine WP.sr (RG.br rfl (RG.nil ?_))
   exact WP.ret ⟨_, _, rv rfl rfl, Cv.p, k⟩
  ·have h3 : nameByte (bt s i) = true := by
    simp [nameByte] at h2 ⊢; omega
   have hj : ∀ j, j < i + 1 -> nameByte (bt s j) = true := fun j h => by
    by_cases e : j = i
    ·subst e; exact h3
    ·exact hb j (by omega)
   refine WP.skip (WP.region (RG.ml rfl (RG.p (PV.add rfl rfl rfl (by omega)) (RG.mr rfl (RG.nil ?_)))))
   exact ⟨rfl, i + 1, ⟨by omega, hj⟩, ⟨rfl, trivial⟩, ⟨rfl, trivial⟩, Cv.p, by omega⟩
 ·have h1 := odf h1
  have e := isName_all (s := s) (fun j h => hb j (by omega))
  rw [e] at k
  refine WP.exit (WP.sr (RG.p (PV.mvS (.inl rfl) rfl) (RG.p (PV.lenS rfl Tryz.underlying9 rfl) (RG.p (PV.geq rfl rfl rfl) (RG.bl rfl ?_)))))
  refine RG.g rfl (fun hp => (PV.mvS (.inl rfl) rfl)) ?_
  refine RG.g rfl (fun hp => (PV.lenS rfl Tryz.underlying9 (gt' hp))) ?_
  refine RG.g rfl (fun hp => (PV.leq rfl (gt' hp) rfl)) ?_
  refine RG.p (PV.pickA rfl rfl (fun hq => gt' (geqT hq)) rfl) (RG.br rfl (RG.nil ?_))
  exact WP.ret ⟨_, _, rv rfl rfl, Cv.p, k⟩
theorem isName_r {s : ByteArray} (hs : s.size <= 9223372036854775807) (k : R (.bool (isName s)) G L) : CallT Tryz.prog 227 #[.string s] G L R := by
 refine CallT.enter (args := _) Tryz.func227 rfl rfl (by kernel_rfl) rfl ?_
 refine WP.sr (RG.br rfl (RG.nil (WP.seq (WP.sr (RG.mr rfl (RG.nil (WP.block ?_)))))))
 refine WP.loop1 [0] (fun i => i <= s.size ∧ ∀ j, j < i -> nameByte (bt s j) = true) (fun i => [(3, vi i)]) (fun i => L) (fun i => s.size - i) 0 ⟨by omega, fun j h => by omega⟩ ⟨rfl, trivial⟩ Cv.p ?_
 rintro i τ ⟨hi, hb⟩
 refine WP.seq (WP.sr (RG.ml rfl (RG.p (PV.mvS (.inl rfl) rfl) (RG.p (PV.lenS rfl Tryz.underlying9 rfl) (RG.p (PV.lss rfl rfl rfl) (RG.nil ?_))))))
 refine WP.cond rfl (fun h1 => ?_) fun h1 => ?_
 ·have h1 := odt h1
  refine WP.skip (WP.seq (WP.block (WP.sr (RG.p (PV.mvS (.inl rfl) rfl) (RG.ml rfl (RG.p (PV.idxStr rfl Tryz.underlying9 rfl rfl rfl (getBG (by omega))) (RG.p (PV.geq rfl rfl rfl) (RG.bl rfl ?_))))))))
  refine RG.g rfl (fun hp => (PV.mvS (.inl rfl) rfl)) ?_
  refine RG.g rfl (fun hp => (PV.mvI (.inl rfl) rfl)) ?_
  refine RG.g rfl (fun hp => (PV.idxStr rfl Tryz.underlying9 (gt' hp) (gt' hp) rfl (getBG (by first | omega | (simp at hp; omega))))) ?_
  refine RG.g rfl (fun hp => (PV.leq rfl (gt' hp) rfl)) ?_
  refine RG.p (PV.pickA rfl rfl (fun hq => gt' (geqT hq)) rfl) (RG.bl rfl ?_)
  refine RG.g rfl (fun hp => (PV.mvS (.inl rfl) rfl)) ?_
  refine RG.g rfl (fun hp => (PV.mvI (.inl rfl) rfl)) ?_
  refine RG.g rfl (fun hp => (PV.idxStr rfl Tryz.underlying9 (gt' hp) (gt' hp) rfl (getBG (by first | omega | (simp at hp; omega))))) ?_
  refine RG.g rfl (fun hp => (PV.geq rfl (gt' hp) rfl)) ?_
  refine RG.g rfl (fun hp => (PV.mvB (.inl rfl) (gt' hp))) ?_
  refine RG.gs2 rfl rfl rfl (fun hp => (PV.mvS (.inl rfl) rfl)) (RG.gs2 rfl rfl rfl (fun hp => (PV.mvI (.inl rfl) rfl)) (RG.gs2 rfl rfl rfl (fun hp => (PV.idxStr rfl Tryz.underlying9 (gt' hp) (gt' hp) rfl (getBG (by first | omega | (simp at hp; omega))))) (RG.gs2 rfl rfl rfl (fun hp => (PV.leq rfl (gt' hp) rfl)) ?_)))
  refine RG.g rfl (fun hp => (PV.pickA rfl (gt' hp) (fun hq => gt' (gandT hp hq)) rfl)) ?_
  refine RG.p (PV.pickO rfl rfl rfl (fun hq => gt' (geqF hq))) (RG.p (PV.not rfl rfl) (RG.nil ?_))
  refine WP.cond rfl (fun h2 => ?_) fun h2 => ?_
  ·have e : isName s = false := isName_not (i := i) (by omega) (by simp [nameByte] at h2 ⊢; omega)
   rw [e] at k
   refine WP.sr (RG.br rfl (RG.nil ?_))
   exact WP.ret ⟨_, _, rv rfl rfl, Cv.p, k⟩
  ·have h3 : nameByte (bt s i) = true := by
    simp [nameByte] at h2 ⊢; omega
   have hj : ∀ j, j < i + 1 -> nameByte (bt s j) = true := fun j h => by
    by_cases e : j = i
    ·subst e; exact h3
    ·exact hb j (by omega)
   refine WP.skip (WP.region (RG.ml rfl (RG.p (PV.add rfl rfl rfl (by omega)) (RG.mr rfl (RG.nil ?_)))))
   exact ⟨rfl, i + 1, ⟨by omega, hj⟩, ⟨rfl, trivial⟩, ⟨rfl, trivial⟩, Cv.p, by omega⟩
 ·have h1 := odf h1
  have e := isName_all (s := s) (fun j h => hb j (by omega))
  rw [e] at k
  refine WP.exit (WP.sr (RG.p (PV.mvS (.inl rfl) rfl) (RG.p (PV.lenS rfl Tryz.underlying9 rfl) (RG.p (PV.geq rfl rfl rfl) (RG.bl rfl ?_)))))
  refine RG.g rfl (fun hp => (PV.mvS (.inl rfl) rfl)) ?_
  refine RG.g rfl (fun hp => (PV.lenS rfl Tryz.underlying9 (gt' hp))) ?_
  refine RG.g rfl (fun hp => (PV.leq rfl (gt' hp) rfl)) ?_
  refine RG.p (PV.pickA rfl rfl (fun hq => gt' (geqT hq)) rfl) (RG.br rfl (RG.nil ?_))
  exact WP.ret ⟨_, _, rv rfl rfl, Cv.p, k⟩
def unitB (p : Pt) : Bool := within p.x (-40) 39 && within p.y (-40) 39
def validLb (l : Label) : Bool := (within l.layer 0 7 && unitB l.at_) && isName l.name
theorem validLb_i {l : Label} (hs : l.name.size <= 9223372036854775807) (k : R (.bool (validLb l)) G L) : CallT Tryz.prog 158 #[vT labelT l] G L R := by
 refine CallT.enter (args := _) Tryz.func158 rfl rfl (by kernel_rfl) rfl ?_
 refine WP.sr ?_
 refine RG.ot rfl (OT.box (cs := labelT.enc l) rfl rfl rfl fun b1 => ?_)
 refine RG.br rfl (RG.nil (WP.sr (RG.p (PV.field rfl Fo182_0 rfl) (RG.p (PV.load1 rfl Sc2 rfl (Rd.blk rfl)) ?_))))
 refine RG.callF (vs := [_, _, _]) rfl rfl En56 rfl (within_s ?_)
 refine RG.bl rfl ?_
 refine RG.g rfl (fun hp => (PV.field rfl Fo182_1 rfl)) ?_
 refine RG.g rfl (fun hp => (PV.loadB (vs := [_, _]) rfl Ag156 (gt' hp) rfl rfl)) ?_
 refine RG.gsC rfl rfl rfl rfl En205 (fun hp => ⟨_, (acons (gt' hp) anil), unitCell_s ⟨rfl, rfl, rfl⟩⟩) ?_
 refine RG.p (PV.pickA rfl rfl (fun hq => gt' (geqT hq)) rfl) (RG.bl rfl ?_)
 refine RG.g rfl (fun hp => (PV.field rfl Fo182_2 rfl)) ?_
 refine RG.g rfl (fun hp => (PV.load1 rfl Sc9 (gt' hp) (Rd.blk rfl))) ?_
 refine RG.gsC rfl rfl rfl rfl En152 (fun hp => ⟨_, (acons (gt' hp) anil), isName_i hs ⟨rfl, rfl, rfl⟩⟩) ?_
 refine RG.p (PV.pickA rfl rfl (fun hq => gt' (geqT hq)) rfl) (RG.br rfl (RG.nil ?_))
 exact WP.ret ⟨_, _, rv rfl rfl, Cv.p, k⟩
theorem l09In_s {a b c : Int} (k : R (.bool (within a b c)) G L) : CallT Tryz.prog 184 #[vi a, vi b, vi c] G L R := by
 refine CallT.enter (args := _) Tryz.func184 rfl rfl (by kernel_rfl) rfl ?_
 refine WP.sr (RG.br rfl (RG.nil (WP.sr (RG.ml rfl (RG.ml rfl (RG.p (PV.geq rfl rfl rfl) (RG.bl rfl ?_)))))))
 refine RG.g rfl (fun hp => (PV.mvI (.inl rfl) rfl)) ?_
 refine RG.g rfl (fun hp => (PV.mvI (.inl rfl) rfl)) ?_
 refine RG.g rfl (fun hp => (PV.leq rfl (gt' hp) (gt' hp))) ?_
 refine RG.p (PV.pickA rfl rfl (fun hq => gt' (geqT hq)) rfl) (RG.br rfl (RG.nil ?_))
 exact WP.ret ⟨_, _, rv rfl rfl, Cv.p, k⟩
theorem l09Layer_s {a : Int} (k : R (.bool (within a 0 7)) G L) : CallT Tryz.prog 254 #[vi a] G L R := by
 refine CallT.enter (args := _) Tryz.func254 rfl rfl (by kernel_rfl) rfl ?_
 refine WP.sr (RG.br rfl (RG.nil (WP.sr (RG.ml rfl ?_))))
 refine RG.callF (vs := [_, _, _]) rfl rfl En184 rfl (l09In_s ?_)
 refine RG.br rfl (RG.nil ?_)
 exact WP.ret ⟨_, _, rv rfl rfl, Cv.p, k⟩
theorem l09Unit_s {p : Pt} (k : R (.bool (unitB p)) G L) : CallT Tryz.prog 255 #[vpt p] G L R := by
 refine CallT.enter (args := _) Tryz.func255 rfl rfl (by kernel_rfl) rfl ?_
 refine WP.sr ?_
 refine RG.ot rfl (OT.box (cs := ptT.enc p) rfl rfl rfl fun b1 => ?_)
 refine RG.br rfl (RG.nil (WP.sr (RG.p (PV.field rfl Fo156_0 rfl) (RG.p (PV.load1 rfl Sc2 rfl (Rd.blk rfl)) ?_))))
 refine RG.callF (vs := [_, _, _]) rfl rfl En184 rfl (l09In_s ?_)
 refine RG.bl rfl ?_
 refine RG.g rfl (fun hp => (PV.field rfl Fo156_1 rfl)) ?_
 refine RG.g rfl (fun hp => (PV.load1 rfl Sc2 (gt' hp) (Rd.blk rfl))) ?_
 refine RG.gsC rfl rfl rfl rfl En184 (fun hp => ⟨_, (acons (gt' hp) (acons rfl (acons rfl anil))), l09In_s ⟨rfl, rfl, rfl⟩⟩) ?_
 refine RG.p (PV.pickA rfl rfl (fun hq => gt' (geqT hq)) rfl) (RG.br rfl (RG.nil ?_))
 exact WP.ret ⟨_, _, rv rfl rfl, Cv.p, k⟩
theorem validLb_r {l : Label} (hs : l.name.size <= 9223372036854775807) (k : R (.bool (validLb l)) G L) : CallT Tryz.prog 229 #[vT labelT l] G L R := by
 refine CallT.enter (args := _) Tryz.func229 rfl rfl (by kernel_rfl) rfl ?_
 refine WP.sr ?_
 refine RG.ot rfl (OT.box (cs := labelT.enc l) rfl rfl rfl fun b1 => ?_)
 refine RG.br rfl (RG.nil (WP.sr (RG.p (PV.field rfl Fo182_0 rfl) (RG.p (PV.load1 rfl Sc2 rfl (Rd.blk rfl)) ?_))))
 refine RG.callF (vs := [_]) rfl rfl En254 rfl (l09Layer_s ?_)
 refine RG.bl rfl ?_
 refine RG.g rfl (fun hp => (PV.field rfl Fo182_1 rfl)) ?_
 refine RG.g rfl (fun hp => (PV.loadB (vs := [_, _]) rfl Ag156 (gt' hp) rfl rfl)) ?_
 refine RG.gsC rfl rfl rfl rfl En255 (fun hp => ⟨_, (acons (gt' hp) anil), l09Unit_s ⟨rfl, rfl, rfl⟩⟩) ?_
 refine RG.p (PV.pickA rfl rfl (fun hq => gt' (geqT hq)) rfl) (RG.bl rfl ?_)
 refine RG.g rfl (fun hp => (PV.field rfl Fo182_2 rfl)) ?_
 refine RG.g rfl (fun hp => (PV.load1 rfl Sc9 (gt' hp) (Rd.blk rfl))) ?_
 refine RG.gsC rfl rfl rfl rfl En227 (fun hp => ⟨_, (acons (gt' hp) anil), isName_r hs ⟨rfl, rfl, rfl⟩⟩) ?_
 refine RG.p (PV.pickA rfl rfl (fun hq => gt' (geqT hq)) rfl) (RG.br rfl (RG.nil ?_))
 exact WP.ret ⟨_, _, rv rfl rfl, Cv.p, k⟩
theorem indexF_label {v fv : Value} {xs : List (Label)} {p : (Label) -> Bool} (h1 : Rs G L labelT v xs) (hf : ∀ i, i < xs.length -> CB Tryz.prog G L fv [vT labelT (gd xs i)] (.bool (p (gd xs i)))) (k : R (vi (idxI p xs)) G L) : CallT Tryz.prog 204 #[v, fv] G L R := by
 refine CallT.bd h1 fun hb => ?_
 refine CallT.enter (args := _) Tryz.func204 rfl rfl (by kernel_rfl) rfl ?_
 refine WP.sr (RG.mr rfl (RG.nil (WP.seq (WP.sr (RG.p (PV.move (v := v) rfl rfl) (RG.p (PV.len (v := v) rfl Tryz.underlying92 rfl (SlF.r h1)) (RG.ml rfl (RG.nil (WP.block ?_)))))))))
 refine WP.loop1 [0, 1, 7] (fun i => i <= xs.length ∧ ∀ j, j < i -> p (gd xs j) = false) (fun i => [(8, vi i)]) (fun i => L) (fun i => xs.length - i) 0 ⟨by omega, fun j h => by omega⟩ ⟨rfl, trivial⟩ Cv.p ?_
 rintro i τ ⟨hi, hj⟩
 refine WP.sr (RG.p (PV.lss rfl rfl rfl) (RG.nil (WP.seq ?_)))
 refine WP.cond rfl (fun h2 => ?_) fun h2 => ?_
 ·have h2 := odt h2
  refine WP.skip (WP.seq (WP.block (WP.sr (RG.ml rfl (RG.mr rfl (RG.nil (WP.sr (RG.p (PV.move (v := fv) rfl rfl) (RG.p (PV.move (v := v) rfl rfl) (RG.ml rfl (RG.p (PV.idxS (v := v) rfl Is92 rfl (SlF.r h1) rfl rfl (by omega)) ?_)))))))))))
  refine RG.p (PV.loadE rfl Ag182 rfl rfl (El.r h1 (getG (by omega)))) ?_
  refine RG.callB (vs := [_]) rfl rfl rfl rfl (CB.up (hf i (by omega))) ?_
  refine RG.nil ?_
  refine WP.cond rfl (fun h3 => ?_) fun h3 => ?_
  ·rw [idxI_at (by omega) h3 hj] at k
   refine WP.sr (RG.ml rfl (RG.mr rfl (RG.nil ?_)))
   exact WP.ret ⟨_, _, rv rfl rfl, Cv.p, k⟩
  ·have hj' : ∀ j, j < i + 1 -> p (gd xs j) = false := fun j h => by
    by_cases c : j = i
    ·rw [c]; exact h3
    ·exact hj j (by omega)
   refine WP.skip (WP.region (RG.p (PV.add rfl rfl rfl (by omega)) (RG.ml rfl (RG.nil ?_))))
   exact ⟨rfl, i + 1, ⟨by omega, hj'⟩, ⟨rfl, trivial⟩, ⟨rfl, rfl, rfl, trivial⟩, Cv.p, by omega⟩
 ·have h2 := odf h2
  rw [idxI_none (fun j h => hj j (by omega))] at k
  refine WP.exit (WP.sr (RG.mr rfl (RG.nil ?_)))
  exact WP.ret ⟨_, _, rv rfl rfl, Cv.p, k⟩
theorem containsF_label {v fv : Value} {xs : List (Label)} {p : (Label) -> Bool} (h1 : Rs G L labelT v xs) (hf : ∀ i, i < xs.length -> CB Tryz.prog G L fv [vT labelT (gd xs i)] (.bool (p (gd xs i)))) (k : R (.bool (xs.any p)) G L) : CallT Tryz.prog 156 #[v, fv] G L R := by
 rw [<- idxI_any] at k
 refine CallT.enter (args := _) Tryz.func156 rfl rfl (by kernel_rfl) rfl ?_
 refine WP.sr (RG.br rfl (RG.nil (WP.sr (RG.p (PV.move (v := v) rfl rfl) (RG.p (PV.move (v := fv) rfl rfl) ?_)))))
 refine RG.callF (vs := [v, fv]) rfl rfl En204 rfl (indexF_label (Rs.up h1) (fun i hi => (hf i hi).up) ?_)
 refine RG.p (PV.geq rfl rfl rfl) (RG.br rfl (RG.nil ?_))
 exact WP.ret ⟨_, _, rv rfl rfl, Cv.p, k⟩
structure ECell where
  name : ByteArray
  shapes : List Shape
  labels : List Label
  insts : List Inst
  deriving DecidableEq, Inhabited
def erCl (c : Cell) : ECell := ⟨c.name, c.shapes.xs, c.labels.xs, c.insts.xs⟩
def erCls (xs : List Cell) : List ECell := xs.map erCl
theorem erCls_len (xs : List Cell) : (erCls xs).length = xs.length := by simp [erCls]
theorem erCls_gd {xs : List Cell} {i : Nat} (h : i < xs.length) : gd (erCls xs) i = erCl (gd xs i) := gd_map _ h
def okSh (s : Shape) : Bool := within s.layer 0 7 && validRect s.box
def okIn (k : Int) (n : Inst) : Bool :=
  within n.cell 0 (k - 1) && validT n.place && within n.cols 1 4 && within n.rows 1 4 && within n.sx (-80) 80 && within n.sy (-80) 80 && (decide (n.sx = 0) || decide (1 < n.cols)) && (decide (n.sy = 0) || decide (1 < n.rows))
def okCell (k : Int) (c : ECell) : Bool :=
  isName c.name && decide ((c.shapes.length : Int) <= 24) && decide ((c.labels.length : Int) <= 8) && decide ((c.insts.length : Int) <= 8) && !(c.shapes.any fun s => !okSh s) && !(c.labels.any fun l => !validLb l) && !(c.insts.any fun n => !okIn k n)
def nameAt (cs : List ECell) (i : Nat) : Bool := decide (∀ j, j < i -> (gd cs j).name ≠ (gd cs i).name)
def cellAt (cs : List ECell) (i : Nat) : Bool := okCell i (gd cs i) && nameAt cs i
def okLib (cs : List ECell) : Bool := decide (1 <= cs.length) && decide (cs.length <= 8) && decide (∀ i, i < cs.length -> cellAt cs i = true)
theorem okLib_false {cs : List ECell} {i : Nat} (h : i < cs.length) (e : cellAt cs i = false) : okLib cs = false := by
 simp only [okLib, Bool.and_eq_false_iff, decide_eq_false_iff_not]
 exact .inr fun hh => by rw [hh i h] at e; cases e
theorem okLib_all {cs : List ECell} (h1 : 1 <= cs.length) (h2 : cs.length <= 8) (h : ∀ i, i < cs.length -> cellAt cs i = true) : okLib cs = true := by
 simp only [okLib, Bool.and_eq_true, decide_eq_true_eq]
 exact ⟨⟨h1, h2⟩, h⟩
theorem okLib_len {cs : List ECell} (h : okLib cs = true) : 1 <= cs.length ∧ cs.length <= 8 := by
 simp only [okLib, Bool.and_eq_true, decide_eq_true_eq] at h; exact h.1
theorem okLib_cell {cs : List ECell} (h : okLib cs = true) {i : Nat} (hi : i < cs.length) : okCell i (gd cs i) = true := by
 simp only [okLib, Bool.and_eq_true, decide_eq_true_eq] at h
 have := h.2 i hi
 simp only [cellAt, Bool.and_eq_true] at this; exact this.1
theorem any_not {α : Type} [Inhabited α] {p : α -> Bool} {xs : List α} (h : (xs.any fun a => !p a) = false) {i : Nat} (hi : i < xs.length) : p (gd xs i) = true := by
 rw [List.any_eq_false] at h
 have := h (gd xs i) (gd_mem hi)
 simpa using this
theorem okLib_inst {cs : List ECell} (h : okLib cs = true) {i j : Nat} (hi : i < cs.length) (hj : j < (gd cs i).insts.length) : okIn i (gd (gd cs i).insts j) = true := by
 have := okLib_cell h hi
 simp only [okCell, Bool.and_eq_true, Bool.not_eq_true'] at this
 exact any_not this.2 hj
theorem okLib_shape {cs : List ECell} (h : okLib cs = true) {i j : Nat} (hi : i < cs.length) (hj : j < (gd cs i).shapes.length) : okSh (gd (gd cs i).shapes j) = true := by
 have := okLib_cell h hi
 simp only [okCell, Bool.and_eq_true, Bool.not_eq_true'] at this
 exact any_not this.1.1.2 hj
theorem okLib_cnt {cs : List ECell} (h : okLib cs = true) {i : Nat} (hi : i < cs.length) : (gd cs i).insts.length <= 8 ∧ (gd cs i).shapes.length <= 24 := by
 have := okLib_cell h hi
 simp only [okCell, Bool.and_eq_true, decide_eq_true_eq] at this
 omega
theorem okIn_bd {k : Int} {n : Inst} (h : okIn k n = true) : (0 <= n.cell ∧ n.cell <= k - 1) ∧ validT n.place = true ∧ (1 <= n.cols ∧ n.cols <= 4) ∧ (1 <= n.rows ∧ n.rows <= 4) ∧ (-80 <= n.sx ∧ n.sx <= 80) ∧ (-80 <= n.sy ∧ n.sy <= 80) := by
 simp only [okIn, within, Bool.and_eq_true, decide_eq_true_eq] at h
 exact ⟨h.1.1.1.1.1.1.1, h.1.1.1.1.1.1.2, h.1.1.1.1.1.2, h.1.1.1.1.2, h.1.1.1.2, h.1.1.2⟩
theorem range_gd {n q : Nat} (h : q < n) : gd (List.range n) q = q := by unfold gd; simp [h]
def elPlace (n : Inst) (c r : Int) : Trans := ⟨n.place.o, n.place.x + c * n.sx, n.place.y + r * n.sy⟩
def elsOf (n : Inst) : List HElem := (List.range (n.rows.toNat * n.cols.toNat)).map fun q => ⟨n.cell, elPlace n ((q % n.cols.toNat : Nat) : Int) ((q / n.cols.toNat : Nat) : Int)⟩
def elems (ns : List Inst) : List HElem := ns.flatMap elsOf
theorem elsOf_len (n : Inst) : (elsOf n).length = n.rows.toNat * n.cols.toNat := by simp [elsOf]
theorem elsOf_gd {n : Inst} {c r : Nat} (hc : c < n.cols.toNat) (hr : r < n.rows.toNat) : r * n.cols.toNat + c < (elsOf n).length ∧ gd (elsOf n) (r * n.cols.toNat + c) = ⟨n.cell, elPlace n c r⟩ := by
 have h1 : r * n.cols.toNat + c < n.rows.toNat * n.cols.toNat := by
  have := Nat.mul_le_mul_right n.cols.toNat (show r + 1 <= n.rows.toNat by omega)
  rw [Nat.add_mul] at this; omega
 refine ⟨by rw [elsOf_len]; exact h1, ?_⟩
 have hm : (r * n.cols.toNat + c) % n.cols.toNat = c := by rw [Nat.add_comm, Nat.add_mul_mod_self_right, Nat.mod_eq_of_lt hc]
 have hd : (r * n.cols.toNat + c) / n.cols.toNat = r := by rw [Nat.add_comm, Nat.add_mul_div_right _ _ (by omega), Nat.div_eq_of_lt hc, Nat.zero_add]
 have hr : gd (List.range (n.rows.toNat * n.cols.toNat)) (r * n.cols.toNat + c) = r * n.cols.toNat + c := range_gd h1
 rw [elsOf, gd_map _ (by simpa using h1), hr, hm, hd]
theorem elsOf_step {n : Inst} {c r : Nat} (hc : c < n.cols.toNat) (hr : r < n.rows.toNat) : (elsOf n).take (r * n.cols.toNat + (c + 1)) = (elsOf n).take (r * n.cols.toNat + c) ++ [⟨n.cell, elPlace n c r⟩] := by
 obtain ⟨h1, h2⟩ := elsOf_gd hc hr
 rw [<- Nat.add_assoc, List.take_add_one, getG h1, h2]; rfl
theorem elems_take {ns : List Inst} {i : Nat} (h : i < ns.length) : elems (ns.take (i + 1)) = elems (ns.take i) ++ elsOf (gd ns i) := by
 rw [elems, elems, List.take_add_one, getG h, List.flatMap_append]; simp
theorem elems_split {ns : List Inst} {i : Nat} (h : i < ns.length) : elems ns = elems (ns.take i) ++ elsOf (gd ns i) ++ elems (ns.drop (i + 1)) := by
 conv => lhs; rw [<- List.take_append_drop (i + 1) ns]
 rw [elems, List.flatMap_append]
 have := elems_take h
 rw [elems] at this
 rw [this]; rfl
theorem elems_at {ns : List Inst} {i c r : Nat} (h : i < ns.length) (hc : c < (gd ns i).cols.toNat) (hr : r < (gd ns i).rows.toNat) :
  (elems (ns.take i)).length + (r * (gd ns i).cols.toNat + c) < (elems ns).length ∧ gd (elems ns) ((elems (ns.take i)).length + (r * (gd ns i).cols.toNat + c)) = ⟨(gd ns i).cell, elPlace (gd ns i) c r⟩ := by
 obtain ⟨h1, h2⟩ := elsOf_gd hc hr
 rw [elems_split h]
 refine ⟨by simp only [List.length_append]; omega, ?_⟩
 rw [List.append_assoc, gd_app_at, gd_app_l h1, h2]
theorem elems_mem {ns : List Inst} {e : HElem} (h : e ∈ elems ns) : ∃ j c r : Nat, j < ns.length ∧ c < (gd ns j).cols.toNat ∧ r < (gd ns j).rows.toNat ∧ e = ⟨(gd ns j).cell, elPlace (gd ns j) c r⟩ := by
 obtain ⟨n, hn, he⟩ := List.mem_flatMap.1 h
 obtain ⟨j, hj, rfl⟩ := List.getElem_of_mem hn
 rw [<- gd_eq hj] at he
 obtain ⟨q, hq, rfl⟩ := List.mem_map.1 he
 have hq := List.mem_range.1 hq
 have h0 : 0 < (gd ns j).cols.toNat := by
  rcases Nat.eq_zero_or_pos (gd ns j).cols.toNat with h | h
  ·rw [h] at hq; omega
  ·exact h
 exact ⟨j, q % (gd ns j).cols.toNat, q / (gd ns j).cols.toNat, hj, Nat.mod_lt _ h0, (Nat.div_lt_iff_lt_mul h0).2 hq, rfl⟩
theorem mul_bd {a b A B : Int} (ha : 0 <= a ∧ a <= A) (hb : -B <= b ∧ b <= B) (hB : 0 <= B) : -(A * B) <= a * b ∧ a * b <= A * B := by
 have h1 : a * b <= a * B := Int.mul_le_mul_of_nonneg_left hb.2 ha.1
 have h2 : a * -B <= a * b := Int.mul_le_mul_of_nonneg_left hb.1 ha.1
 have h3 : a * B <= A * B := Int.mul_le_mul_of_nonneg_right ha.2 hB
 rw [Int.mul_neg] at h2
 omega
theorem elPlace_bd {k : Int} {n : Inst} (h : okIn k n = true) {c r : Nat} (hc : c < n.cols.toNat) (hr : r < n.rows.toNat) : (0 <= (elPlace n c r).o ∧ (elPlace n c r).o <= 7) ∧ (-320 <= (elPlace n c r).x ∧ (elPlace n c r).x <= 320) ∧ -320 <= (elPlace n c r).y ∧ (elPlace n c r).y <= 320 := by
 obtain ⟨_, h2, h3, h4, h5, h6⟩ := okIn_bd h
 obtain ⟨q1, q2, q3⟩ := validT_iff.1 h2
 have e1 := mul_bd (a := (c : Int)) (b := n.sx) (A := 3) (B := 80) (by omega) h5 (by omega)
 have e2 := mul_bd (a := (r : Int)) (b := n.sy) (A := 3) (B := 80) (by omega) h6 (by omega)
 refine ⟨q1, ?_, ?_⟩ <;> simp only [elPlace] <;> omega
theorem elem_bd {cs : List ECell} (h : okLib cs = true) {k : Nat} (hk : k < cs.length) {i : Nat} (hi : i < (elems (gd cs k).insts).length) :
  (0 <= (gd (elems (gd cs k).insts) i).cell ∧ (gd (elems (gd cs k).insts) i).cell < k) ∧ (0 <= (gd (elems (gd cs k).insts) i).place.o ∧ (gd (elems (gd cs k).insts) i).place.o <= 7) ∧ (-320 <= (gd (elems (gd cs k).insts) i).place.x ∧ (gd (elems (gd cs k).insts) i).place.x <= 320) ∧ -320 <= (gd (elems (gd cs k).insts) i).place.y ∧ (gd (elems (gd cs k).insts) i).place.y <= 320 := by
 obtain ⟨j, c, r, hj, hc, hr, e⟩ := elems_mem (gd_mem hi)
 have ho := okLib_inst h hk hj
 rw [e]
 exact ⟨by have := (okIn_bd ho).1; simp only; omega, elPlace_bd ho hc hr⟩
theorem elems_bd {cs : List ECell} (h : okLib cs = true) {k : Nat} (hk : k < cs.length) : ∀ i, i <= (gd cs k).insts.length -> (elems ((gd cs k).insts.take i)).length <= 16 * i
 | 0, _ => by simp [elems]
 | i + 1, hi => by
  have ih := elems_bd h hk i (by omega)
  obtain ⟨_, _, h3, h4, _, _⟩ := okIn_bd (okLib_inst h hk (j := i) (by omega))
  have := Nat.mul_le_mul (show (gd (gd cs k).insts i).rows.toNat <= 4 by omega) (show (gd (gd cs k).insts i).cols.toNat <= 4 by omega)
  rw [elems_take (by omega), List.length_append, elsOf_len]; omega
theorem elems_len_bd {cs : List ECell} (h : okLib cs = true) {k : Nat} (hk : k < cs.length) : (elems (gd cs k).insts).length <= 128 := by
 have := elems_bd h hk _ (Nat.le_refl _)
 rw [List.take_of_length_le (Nat.le_refl _)] at this
 have := (okLib_cnt h hk).1
 omega
def cntI (ks : List Int) (n : Inst) : Int := n.cols * n.rows * gd ks n.cell.toNat
def ownCnt (ks : List Int) (ns : List Inst) : Int := 1 + costL (cntI ks) ns
def cnts (cs : List ECell) : Nat -> List Int
  | 0 => []
  | n + 1 => cnts cs n ++ [ownCnt (cnts cs n) (gd cs n).insts]
theorem cnts_len (cs : List ECell) : ∀ n, (cnts cs n).length = n
 | 0 => rfl
 | n + 1 => by simp [cnts, cnts_len cs n]
def cntOf (cs : List ECell) (k : Nat) : Int := ownCnt (cnts cs k) (gd cs k).insts
theorem cnts_gd (cs : List ECell) : ∀ {n i : Nat}, i < n -> gd (cnts cs n) i = cntOf cs i
 | n + 1, i, h => by
  rw [cnts]
  by_cases e : i < n
  ·rw [gd_app_l (by rw [cnts_len]; exact e), cnts_gd cs e]
  ·obtain rfl : i = n := by omega
   have := gd_app_r (xs := cnts cs i) (a := ownCnt (cnts cs i) (gd cs i).insts)
   rw [cnts_len] at this
   rw [this]; rfl
theorem costL_bdH {α : Type} [Inhabited α] {n : α -> Int} {B : Int} (hB : 0 <= B) {xs : List α} (h : ∀ i, i < xs.length -> 0 <= n (gd xs i) ∧ n (gd xs i) <= B) : ∀ i, i <= xs.length -> 0 <= costL n (xs.take i) ∧ costL n (xs.take i) <= B * i
 | 0, _ => by simp [costL]
 | i + 1, hi => by
  have ih := costL_bdH hB h i (by omega)
  have := h i (by omega)
  rw [costL_take n (by omega)]
  have e : B * ((i + 1 : Nat) : Int) = B * i + B := by rw [Int.natCast_add, Int.mul_add]; simp
  omega
theorem cntI_bd {k M : Int} {ks : List Int} {n : Inst} (h : okIn k n = true) (hk : 0 <= gd ks n.cell.toNat ∧ gd ks n.cell.toNat <= M) : 0 <= cntI ks n ∧ cntI ks n <= 16 * M := by
 obtain ⟨_, _, h3, h4, _, _⟩ := okIn_bd h
 have e1 := mul_bd (a := n.cols) (b := n.rows) (A := 4) (B := 4) (by omega) (by omega) (by omega)
 have e0 : 0 <= n.cols * n.rows := Int.mul_nonneg (by omega) (by omega)
 have e2 := mul_bd (a := n.cols * n.rows) (b := gd ks n.cell.toNat) (A := 16) (B := M) (by omega) (by omega) (by omega)
 have e3 : 0 <= n.cols * n.rows * gd ks n.cell.toNat := Int.mul_nonneg e0 hk.1
 simp only [cntI]; omega
theorem ownCnt_bd {cs : List ECell} (h : okLib cs = true) {M : Int} (hM : 0 <= M) {k : Nat} (hk : k < cs.length) (hh : ∀ i, i < k -> 0 <= gd (cnts cs k) i ∧ gd (cnts cs k) i <= M) : ∀ i, i <= (gd cs k).insts.length -> 1 <= 1 + costL (cntI (cnts cs k)) ((gd cs k).insts.take i) ∧ 1 + costL (cntI (cnts cs k)) ((gd cs k).insts.take i) <= 1 + 128 * M := by
 intro i hi
 have hc := (okLib_cnt h hk).1
 have := costL_bdH (n := cntI (cnts cs k)) (B := 16 * M) (by omega) (xs := (gd cs k).insts) (fun j hj => cntI_bd (okLib_inst h hk hj) (hh _ (by have := (okIn_bd (okLib_inst h hk hj)).1; omega))) i hi
 have e : 16 * M * i <= 16 * M * 8 := Int.mul_le_mul_of_nonneg_left (by omega) (by omega)
 omega
theorem cntOf_bd {cs : List ECell} (h : okLib cs = true) : ∀ k, k < cs.length -> 1 <= cntOf cs k ∧ cntOf cs k <= 129 ^ (k + 1) := by
 intro k
 induction k using Nat.strongRecOn with
 | ind k ih =>
  intro hk
  have := ownCnt_bd h (M := 129 ^ k) (Int.le_of_lt (Int.pow_pos (show (0 : Int) < 129 by omega))) hk (fun i hi => by
   have hb := ih i hi (by omega)
   rw [cnts_gd cs hi]
   refine ⟨by omega, Int.le_trans hb.2 ?_⟩
   have := Nat.pow_le_pow_right (n := 129) (by omega) (show i + 1 <= k by omega)
   exact_mod_cast this) _ (Nat.le_refl _)
  rw [List.take_of_length_le (Nat.le_refl _)] at this
  refine ⟨this.1, Int.le_trans this.2 ?_⟩
  have h1 : (1 : Int) <= 129 ^ k := by
   have : (0 : Int) < 129 ^ k := Int.pow_pos (show (0 : Int) < 129 by omega)
   omega
  rw [Int.pow_succ]; omega
theorem cnts_big {cs : List ECell} (h : okLib cs = true) {k : Nat} (hk : k < cs.length) : ∀ i, i < k -> 0 <= gd (cnts cs k) i ∧ gd (cnts cs k) i <= 594467302491009 := by
 intro i hi
 rw [cnts_gd cs hi]
 have h1 := cntOf_bd h i (by omega)
 have h2 := (okLib_len h).2
 have : (129 : Nat) ^ (i + 1) <= 129 ^ 7 := Nat.pow_le_pow_right (by omega) (by omega)
 have h3' : ((129 : Int) ^ (i + 1)) <= 129 ^ 7 := by exact_mod_cast this
 have h3 : ((129 : Int) ^ (i + 1)) <= 594467302491009 := Int.le_trans h3' (by decide)
 omega
structure EOcc where
  cell : Int
  place : Trans
  path : List Int
  deriving DecidableEq, Inhabited
def erO (o : Occ) : EOcc := ⟨o.cell, o.place, o.path.xs⟩
def erOs (xs : List Occ) : List EOcc := xs.map erO
theorem erOs_len (xs : List Occ) : (erOs xs).length = xs.length := by simp [erOs]
theorem erOs_gd {xs : List Occ} {i : Nat} (h : i < xs.length) : gd (erOs xs) i = erO (gd xs i) := gd_map _ h
def cmpo (a b : Int) : Int := (if 4 <= b then b % 4 + 4 - a % 4 else b % 4 + a % 4) % 4 + (if decide (4 <= a) = decide (4 <= b) then 0 else 4)
theorem cmpo_in {a b : Int} : 0 <= cmpo a b ∧ cmpo a b <= 7 := by
 unfold cmpo
 generalize (if 4 <= b then b % 4 + 4 - a % 4 else b % 4 + a % 4) = z
 split <;> omega
def cmpT (t u : Trans) : Trans := ⟨cmpo t.o u.o, (moveP u ⟨t.x, t.y⟩).x, (moveP u ⟨t.x, t.y⟩).y⟩
def kid (o : EOcc) (e : HElem) (n : Nat) : EOcc := ⟨e.cell, cmpT e.place o.place, o.path ++ [(n : Int)]⟩
def occF (cs : List ECell) : Nat -> EOcc -> List EOcc
  | 0, o => [o]
  | f + 1, o => o :: ((List.range (elems (gd cs o.cell.toNat).insts).length).flatMap fun n => occF cs f (kid o (gd (elems (gd cs o.cell.toNat).insts) n) n))
def occTo (cs : List ECell) (f : Nat) (o : EOcc) (i : Nat) : List EOcc := o :: ((List.range i).flatMap fun n => occF cs f (kid o (gd (elems (gd cs o.cell.toNat).insts) n) n))
theorem occTo_zero (cs : List ECell) (f : Nat) (o : EOcc) : occTo cs f o 0 = [o] := rfl
theorem occTo_succ (cs : List ECell) (f : Nat) (o : EOcc) (i : Nat) : occTo cs f o (i + 1) = occTo cs f o i ++ occF cs f (kid o (gd (elems (gd cs o.cell.toNat).insts) i) i) := by
 simp [occTo, List.range_succ, List.flatMap_append]
theorem occTo_all (cs : List ECell) (f : Nat) (o : EOcc) : occTo cs f o (elems (gd cs o.cell.toNat).insts).length = occF cs (f + 1) o := rfl
def oIn (f : Nat) (o : EOcc) : Prop := (0 <= o.cell ∧ o.cell < f) ∧ (0 <= o.place.o ∧ o.place.o <= 7) ∧ (-(320 * (8 - (f : Int))) <= o.place.x ∧ o.place.x <= 320 * (8 - f)) ∧ -(320 * (8 - (f : Int))) <= o.place.y ∧ o.place.y <= 320 * (8 - f)
theorem kid_in {cs : List ECell} (h : okLib cs = true) {f : Nat} {o : EOcc} (ho : oIn (f + 1) o) (hl : o.cell.toNat < cs.length) {i : Nat} (hi : i < (elems (gd cs o.cell.toNat).insts).length) : oIn f (kid o (gd (elems (gd cs o.cell.toNat).insts) i) i) := by
 obtain ⟨h1, h2, h3, h4⟩ := elem_bd h hl hi
 obtain ⟨⟨k1, k2⟩, k3, k4, k5⟩ := ho
 obtain ⟨t1, t2, t3, t4⟩ : InB 320 (turnP o.place.o ⟨(gd (elems (gd cs o.cell.toNat).insts) i).place.x, (gd (elems (gd cs o.cell.toNat).insts) i).place.y⟩) := turnP_in ⟨h3.1, h3.2, h4.1, h4.2⟩
 refine ⟨?_, ?_, ?_, ?_⟩
 ·simp only [kid]; omega
 ·exact cmpo_in
 ·simp only [kid, cmpT, moveP]; omega
 ·simp only [kid, cmpT, moveP]; omega
theorem flatMap_len {α : Type} (g : Nat -> List α) : ∀ n, (((List.range n).flatMap g).length : Int) = ((List.range n).map fun i => ((g i).length : Int)).sum
 | 0 => rfl
 | n + 1 => by
  have ih := flatMap_len g n
  simp only [List.range_succ, List.flatMap_append, List.length_append, List.map_append, List.sum_append, Int.natCast_add, ih]
  simp
theorem sum_elems (g : Int -> Int) : ∀ ns : List Inst, (∀ i, i < ns.length -> 1 <= (gd ns i).cols ∧ 1 <= (gd ns i).rows) -> (((elems ns).map fun e => g e.cell).sum : Int) = costL (fun n => n.cols * n.rows * g n.cell) ns
 | [], _ => rfl
 | n :: ns, h => by
  have ih := sum_elems g ns (fun i hi => by have := h (i + 1) (by simpa using hi); simpa [gd] using this)
  have h0 := h 0 (by simp)
  have e0 : gd (n :: ns) 0 = n := by simp [gd]
  rw [e0] at h0
  have e : elems (n :: ns) = elsOf n ++ elems ns := rfl
  rw [e, List.map_append, List.sum_append, ih, costL]
  congr 1
  have : (elsOf n).map (fun e => g e.cell) = List.replicate (n.rows.toNat * n.cols.toNat) (g n.cell) := by
   rw [elsOf, List.map_map, List.eq_replicate_iff]
   simp [Function.comp_def]
  rw [this, List.sum_replicate_int]
  rw [Int.natCast_mul, Int.toNat_of_nonneg (by omega), Int.toNat_of_nonneg (by omega), Int.mul_comm n.rows]
theorem map_range_gd {α β : Type} [Inhabited α] (g : α -> β) (xs : List α) : (List.range xs.length).map (fun i => g (gd xs i)) = xs.map g := by
 apply List.ext_getElem?
 intro i
 by_cases hi : i < xs.length
 ·simp [hi, gd_eq hi]
 ·simp [List.getElem?_eq_none (Nat.le_of_not_lt hi), List.getElem?_eq_none (l := List.range xs.length) (by simpa using Nat.le_of_not_lt hi)]
theorem occF_len {cs : List ECell} (h : okLib cs = true) : ∀ (f : Nat) (o : EOcc), 0 <= o.cell -> o.cell.toNat < f -> o.cell.toNat < cs.length -> ((occF cs f o).length : Int) = cntOf cs o.cell.toNat
 | 0, _, _, h, _ => by omega
 | f + 1, o, h0, hf, hl => by
  rw [occF, List.length_cons, Int.natCast_add, flatMap_len]
  have e1 : ∀ i ∈ List.range (elems (gd cs o.cell.toNat).insts).length, ((occF cs f (kid o (gd (elems (gd cs o.cell.toNat).insts) i) i)).length : Int) = cntOf cs (gd (elems (gd cs o.cell.toNat).insts) i).cell.toNat := fun i hi => by
   have hi := List.mem_range.1 hi
   have hb := (elem_bd h hl hi).1
   exact occF_len h f _ hb.1 (by simp only [kid]; omega) (by simp only [kid]; omega)
  rw [List.map_congr_left e1, map_range_gd (fun e : HElem => cntOf cs e.cell.toNat), sum_elems (fun c => cntOf cs c.toNat) _ (fun i hi => by have := okIn_bd (okLib_inst h hl hi); omega), cntOf, ownCnt]
  have e2 : ∀ ns : List Inst, (∀ n ∈ ns, n.cell.toNat < o.cell.toNat) -> costL (fun n => n.cols * n.rows * cntOf cs n.cell.toNat) ns = costL (cntI (cnts cs o.cell.toNat)) ns := by
   intro ns
   induction ns with
   | nil => intro _; rfl
   | cons n ns ih =>
    intro hn
    rw [costL, costL, ih (fun m hm => hn m (.tail _ hm)), cntI, cnts_gd cs (hn n (.head _))]
  rw [e2 _ (fun n hn => by
   obtain ⟨j, hj, rfl⟩ := List.getElem_of_mem hn
   have := (okIn_bd (okLib_inst h hl hj)).1
   rw [gd_eq hj] at this
   omega)]
  omega
theorem occTo_le {cs : List ECell} {f : Nat} {o : EOcc} {i : Nat} (hi : i <= (elems (gd cs o.cell.toNat).insts).length) : (occTo cs f o i).length <= (occF cs (f + 1) o).length := by
 rw [<- occTo_all, occTo, occTo, List.length_cons, List.length_cons]
 have : (List.range i).flatMap (fun n => occF cs f (kid o (gd (elems (gd cs o.cell.toNat).insts) n) n)) = ((List.range (elems (gd cs o.cell.toNat).insts).length).take i).flatMap (fun n => occF cs f (kid o (gd (elems (gd cs o.cell.toNat).insts) n) n)) := by
  rw [List.take_range, Nat.min_eq_left hi]
 rw [this]
 have h2 := congrArg List.length (congrArg (List.flatMap (fun n => occF cs f (kid o (gd (elems (gd cs o.cell.toNat).insts) n) n))) (List.take_append_drop i (List.range (elems (gd cs o.cell.toNat).insts).length)))
 rw [List.flatMap_append, List.length_append] at h2
 omega
def top (cell : Int) : EOcc := ⟨cell, ⟨0, 0, 0⟩, []⟩
def occAll (cs : List ECell) (cell : Int) : List EOcc := occF cs (cell.toNat + 1) (top cell)
def hasCl (cs : List ECell) (cell : Int) : Bool := okLib cs && within cell 0 ((cs.length : Int) - 1)
def occE (cs : List ECell) (cell : Int) : Int :=
  bif !okLib cs then 1 else bif !within cell 0 ((cs.length : Int) - 1) then 5 else bif decide (200 < cntOf cs cell.toNat) then 3 else bif (occAll cs cell).any fun o => !validT o.place then 2 else 0
def occR (cs : List ECell) (cell : Int) : List EOcc := bif decide (occE cs cell = 0) then occAll cs cell else []
theorem occE_zero {cs : List ECell} {cell : Int} (h : occE cs cell = 0) : okLib cs = true ∧ (0 <= cell ∧ cell < cs.length) ∧ cntOf cs cell.toNat <= 200 ∧ ∀ o ∈ occAll cs cell, validT o.place = true := by
 unfold occE at h
 cases h1 : okLib cs with
 | false => rw [h1] at h; cases h
 | true =>
  cases h2 : within cell 0 ((cs.length : Int) - 1) with
  | false => rw [h1, h2] at h; cases h
  | true =>
   cases h3 : decide (200 < cntOf cs cell.toNat) with
   | true => rw [h1, h2, h3] at h; cases h
   | false =>
    cases h4 : (occAll cs cell).any fun o => !validT o.place with
    | true => rw [h1, h2, h3, h4] at h; cases h
    | false =>
     refine ⟨rfl, ?_, ?_, fun o ho => ?_⟩
     ·simp only [within, Bool.and_eq_true, decide_eq_true_eq] at h2; omega
     ·have := odf h3; omega
     ·rw [List.any_eq_false] at h4
      simpa using h4 o ho
theorem occR_ok {cs : List ECell} {cell : Int} (h : occE cs cell = 0) : occR cs cell = occAll cs cell := by rw [occR, h]; rfl
theorem occR_no {cs : List ECell} {cell : Int} (h : occE cs cell ≠ 0) : occR cs cell = [] := by rw [occR, decide_eq_false h]; rfl
theorem occAll_len {cs : List ECell} {cell : Int} (h : okLib cs = true) (hc : 0 <= cell ∧ cell < cs.length) : ((occAll cs cell).length : Int) = cntOf cs cell.toNat := occF_len h _ (top cell) hc.1 (by simp [top]) (by simp only [top]; omega)
theorem occF_cell {cs : List ECell} (h : okLib cs = true) : ∀ (f : Nat) (o : EOcc), 0 <= o.cell -> o.cell.toNat < f -> o.cell.toNat < cs.length -> ∀ q ∈ occF cs f o, 0 <= q.cell ∧ q.cell <= o.cell
 | 0, _, _, h, _, _, _ => by omega
 | f + 1, o, h0, hf, hl, q, hq => by
  rw [occF, List.mem_cons] at hq
  rcases hq with rfl | hq
  ·exact ⟨h0, Int.le_refl _⟩
  ·obtain ⟨i, hi, hq⟩ := List.mem_flatMap.1 hq
   have hb := (elem_bd h hl (List.mem_range.1 hi)).1
   have := occF_cell h f _ hb.1 (by simp only [kid]; omega) (by simp only [kid]; omega) q hq
   simp only [kid] at this
   omega
theorem occR_cell {cs : List ECell} {cell : Int} {i : Nat} (hi : i < (occR cs cell).length) : okLib cs = true ∧ (0 <= (gd (occR cs cell) i).cell ∧ (gd (occR cs cell) i).cell < cs.length) ∧ validT (gd (occR cs cell) i).place = true ∧ (occR cs cell).length <= 200 := by
 by_cases h : occE cs cell = 0
 ·have hm := gd_mem hi
  rw [occR_ok h] at hm ⊢
  obtain ⟨h1, h2, h3, h4⟩ := occE_zero h
  have := occF_cell h1 _ (top cell) h2.1 (by simp [top]) (by simp only [top]; omega) _ hm
  have hl := occAll_len h1 h2
  exact ⟨h1, by simp only [top] at this; omega, h4 _ hm, by omega⟩
 ·rw [occR_no h] at hi; simp at hi
def flatOf (cs : List ECell) (o : EOcc) : List Shape := (gd cs o.cell.toNat).shapes.map fun s => ⟨s.layer, moveR o.place s.box⟩
def flatL (cs : List ECell) (os : List EOcc) : List Shape := os.flatMap (flatOf cs)
theorem flatOf_len (cs : List ECell) (o : EOcc) : (flatOf cs o).length = (gd cs o.cell.toNat).shapes.length := by simp [flatOf]
theorem flatL_take {cs : List ECell} {os : List EOcc} {i : Nat} (h : i < os.length) : flatL cs (os.take (i + 1)) = flatL cs (os.take i) ++ flatOf cs (gd os i) := by
 rw [flatL, flatL, List.take_add_one, getG h, List.flatMap_append]; simp
theorem flatOf_step {cs : List ECell} {o : EOcc} {k : Nat} (h : k < (gd cs o.cell.toNat).shapes.length) : (flatOf cs o).take (k + 1) = (flatOf cs o).take k ++ [⟨(gd (gd cs o.cell.toNat).shapes k).layer, moveR o.place (gd (gd cs o.cell.toNat).shapes k).box⟩] := by
 rw [List.take_add_one, getG (by rw [flatOf_len]; exact h), flatOf, gd_map _ h]; rfl
theorem flatL_bd {cs : List ECell} {cell : Int} : ∀ i, i <= (occR cs cell).length -> (flatL cs ((occR cs cell).take i)).length <= 24 * i
 | 0, _ => by simp [flatL]
 | i + 1, hi => by
  have ih := flatL_bd (cs := cs) (cell := cell) i (by omega)
  obtain ⟨h1, h2, _, _⟩ := occR_cell (cs := cs) (cell := cell) (i := i) (by omega)
  have := (okLib_cnt h1 (i := (gd (occR cs cell) i).cell.toNat) (by omega)).2
  rw [flatL_take (by omega), List.length_append, flatOf_len]; omega
theorem flatL_len {cs : List ECell} {cell : Int} : (flatL cs (occR cs cell)).length <= 4800 := by
 have := flatL_bd (cs := cs) (cell := cell) _ (Nat.le_refl _)
 rw [List.take_of_length_le (Nat.le_refl _)] at this
 by_cases h : 0 < (occR cs cell).length
 ·have := (occR_cell h).2.2.2; omega
 ·omega
def shE (cs : List ECell) (cell : Int) : Int := bif decide (occE cs cell = 0) then (bif (flatL cs (occR cs cell)).any fun s => !validRect s.box then 2 else 0) else occE cs cell
def shR (cs : List ECell) (cell : Int) : List Shape := bif decide (shE cs cell = 0) then flatL cs (occR cs cell) else []
theorem shE_zero {cs : List ECell} {cell : Int} (h : shE cs cell = 0) : occE cs cell = 0 ∧ ∀ s ∈ flatL cs (occR cs cell), validRect s.box = true := by
 unfold shE at h
 by_cases h1 : occE cs cell = 0
 ·rw [decide_eq_true h1, cond_true] at h
  cases h2 : (flatL cs (occR cs cell)).any fun s => !validRect s.box with
  | true => rw [h2] at h; cases h
  | false =>
   refine ⟨h1, fun s hs => ?_⟩
   rw [List.any_eq_false] at h2
   simpa using h2 s hs
 ·rw [decide_eq_false h1, cond_false] at h; exact absurd h h1
theorem shR_ok {cs : List ECell} {cell : Int} (h : shE cs cell = 0) : shR cs cell = flatL cs (occR cs cell) := by rw [shR, h]; rfl
theorem shR_no {cs : List ECell} {cell : Int} (h : shE cs cell ≠ 0) : shR cs cell = [] := by rw [shR, decide_eq_false h]; rfl
theorem shR_valid {cs : List ECell} {cell : Int} {i : Nat} (hi : i < (shR cs cell).length) : validRect (gd (shR cs cell) i).box = true := by
 by_cases h : shE cs cell = 0
 ·have hm := gd_mem hi
  rw [shR_ok h] at hm ⊢
  exact (shE_zero h).2 _ hm
 ·rw [shR_no h] at hi; simp at hi
theorem shR_len (cs : List ECell) (cell : Int) : (shR cs cell).length <= 4800 := by
 by_cases h : shE cs cell = 0
 ·rw [shR_ok h]; exact flatL_len
 ·rw [shR_no h]; simp
def boxesOf (ss : List Shape) (l : Nat) : List Rect := (ss.filter fun s => decide (s.layer = (l : Int))).map Shape.box
def layL (ss : List Shape) : List (List Rect) := (List.range 8).map fun l => canon (bits (boxesOf ss l))
theorem boxesOf_step {ss : List Shape} {i l : Nat} (h : i < ss.length) : boxesOf (ss.take (i + 1)) l = boxesOf (ss.take i) l ++ (if (gd ss i).layer = (l : Int) then [(gd ss i).box] else []) := by
 rw [boxesOf, boxesOf, List.take_add_one, getG h, List.filter_append, List.map_append]
 by_cases e : (gd ss i).layer = (l : Int) <;> simp [e]
def bndE (cs : List ECell) (cell : Int) : Int := bif decide (shE cs cell = 0) && decide ((shR cs cell).length = 0) then 5 else shE cs cell
def bndR (cs : List ECell) (cell : Int) : Rect := bif decide (bndE cs cell = 0) then boxL ((shR cs cell).map Shape.box) else ⟨0, 0, 0, 0⟩
theorem bndE_zero {cs : List ECell} {cell : Int} (h : bndE cs cell = 0) : shE cs cell = 0 ∧ 0 < (shR cs cell).length := by
 unfold bndE at h
 by_cases h1 : shE cs cell = 0
 ·by_cases h2 : (shR cs cell).length = 0
  ·rw [decide_eq_true h1, decide_eq_true h2] at h; cases h
  ·exact ⟨h1, by omega⟩
 ·rw [decide_eq_false h1, Bool.false_and, cond_false] at h; exact absurd h h1
theorem validR_in {r : Rect} (h : validRect r = true) : RIn 40 r := by
 have := valid_bd h; exact this
theorem bndR_in {cs : List ECell} {cell : Int} (h : bndE cs cell = 0) : RIn 40 (bndR cs cell) := by
 obtain ⟨h1, h2⟩ := bndE_zero h
 rw [bndR, decide_eq_true h, cond_true]
 refine boxL_in (by simpa using h2) fun r hr => ?_
 obtain ⟨s, hs, rfl⟩ := List.mem_map.1 hr
 rw [shR_ok h1] at hs
 exact validR_in ((shE_zero h1).2 s hs)
def rootOf (o : EOcc) : Int := match o.path with | [] => -1 | a :: _ => a
def rootAt (cs : List ECell) (o : EOcc) : List RShape := (flatOf cs o).map fun s => ⟨rootOf o, s⟩
def rootL (cs : List ECell) (os : List EOcc) : List RShape := os.flatMap (rootAt cs)
def rootR (cs : List ECell) (cell : Int) : List RShape := bif decide (shE cs cell = 0) then rootL cs (occR cs cell) else []
theorem rootL_take {cs : List ECell} {os : List EOcc} {i : Nat} (h : i < os.length) : rootL cs (os.take (i + 1)) = rootL cs (os.take i) ++ rootAt cs (gd os i) := by
 rw [rootL, rootL, List.take_add_one, getG h, List.flatMap_append]; simp
theorem rootL_flat (cs : List ECell) (os : List EOcc) : (rootL cs os).map RShape.shape = flatL cs os := by
 induction os with
 | nil => rfl
 | cons o os ih =>
  have e1 : rootL cs (o :: os) = rootAt cs o ++ rootL cs os := rfl
  have e2 : flatL cs (o :: os) = flatOf cs o ++ flatL cs os := rfl
  rw [e1, e2, List.map_append, ih]
  congr 1
  simp [rootAt, Function.comp_def]
theorem rootAt_len (cs : List ECell) (o : EOcc) : (rootAt cs o).length = (gd cs o.cell.toNat).shapes.length := by rw [rootAt, List.length_map, flatOf_len]
theorem rootL_len (cs : List ECell) (os : List EOcc) : (rootL cs os).length = (flatL cs os).length := by rw [<- rootL_flat, List.length_map]
theorem flatL_split {cs : List ECell} {os : List EOcc} {i : Nat} (h : i < os.length) : flatL cs os = flatL cs (os.take i) ++ (flatOf cs (gd os i) ++ flatL cs (os.drop (i + 1))) := by
 conv => lhs; rw [<- List.take_append_drop (i + 1) os]
 rw [flatL, List.flatMap_append]
 have := flatL_take (cs := cs) h
 rw [flatL] at this
 rw [this, List.append_assoc]; rfl
theorem rootAt_step {cs : List ECell} {os : List EOcc} {i k : Nat} (h : i < os.length) (hk : k < (gd cs (gd os i).cell.toNat).shapes.length) :
  (rootL cs (os.take i) ++ (rootAt cs (gd os i)).take k).length < (flatL cs os).length ∧ (rootAt cs (gd os i)).take (k + 1) = (rootAt cs (gd os i)).take k ++ [⟨rootOf (gd os i), gd (flatL cs os) (rootL cs (os.take i) ++ (rootAt cs (gd os i)).take k).length⟩] := by
 have hl : ((rootAt cs (gd os i)).take k).length = k := by rw [List.length_take, rootAt_len]; omega
 have hf : k < (flatOf cs (gd os i)).length := by rw [flatOf_len]; exact hk
 have e : gd (flatL cs os) (rootL cs (os.take i) ++ (rootAt cs (gd os i)).take k).length = gd (flatOf cs (gd os i)) k := by
  rw [List.length_append, hl, rootL_len, flatL_split h, gd_app_at, gd_app_l hf]
 refine ⟨?_, ?_⟩
 ·rw [List.length_append, hl, rootL_len, flatL_split h, List.length_append, List.length_append]; omega
 ·rw [e, List.take_add_one, getG (by rw [rootAt_len]; exact hk), rootAt, gd_map _ hf]; rfl
@[reducible] def wideR (r : Rect) (k : Int) : Rect := ⟨r.x0 - k, r.y0 - k, r.x1 + k, r.y1 + k⟩
def distR (a b : Rect) : Int := max (max (max (max 0 (b.x0 - a.x1 + 1)) (a.x0 - b.x1 + 1)) (b.y0 - a.y1 + 1)) (a.y0 - b.y1 + 1)
def nearS (n reach : Int) (p : Rect) (x : RShape) : Bool := !decide (x.root = n) && decide (distR x.shape.box p <= 2 * reach)
def freeB (cs : List ECell) (cell n reach : Int) : Bool :=
  let e := gd (elems (gd cs cell.toNat).insts) n.toNat
  decide (bndE cs e.cell = 0) && (validRect (wideR (bndR cs e.cell) reach) && validRect (wideR (moveR e.place (bndR cs e.cell)) reach)) && !((rootL cs (occR cs cell)).any (nearS n reach (moveR e.place (bndR cs e.cell))))
def elN (cs : List ECell) (cell : Int) : Nat := (elems (gd cs cell.toNat).insts).length
theorem shE_lib {cs : List ECell} {cell : Int} (h : shE cs cell = 0) : okLib cs = true ∧ 0 <= cell ∧ cell < cs.length := by
 have := occE_zero (shE_zero h).1
 exact ⟨this.1, this.2.1⟩
theorem occF_head (cs : List ECell) (f : Nat) (o : EOcc) : o ∈ occF cs f o := by
 cases f <;> simp [occF]
theorem cmpT_top {t : Trans} (h : 0 <= t.o ∧ t.o <= 7) : cmpT t ⟨0, 0, 0⟩ = t := by
 obtain ⟨o, x, y⟩ := t
 have ho : o = 0 ∨ o = 1 ∨ o = 2 ∨ o = 3 ∨ o = 4 ∨ o = 5 ∨ o = 6 ∨ o = 7 := by simp only at h; omega
 rcases ho with rfl | rfl | rfl | rfl | rfl | rfl | rfl | rfl <;> simp [cmpT, cmpo, moveP, turnP, flip, rot]
theorem elems_valid {cs : List ECell} {cell : Int} (h : occE cs cell = 0) {i : Nat} (hi : i < elN cs cell) : validT (gd (elems (gd cs cell.toNat).insts) i).place = true := by
 obtain ⟨h1, h2, h3, h4⟩ := occE_zero h
 have hb := elem_bd h1 (k := cell.toNat) (by omega) hi
 have hm : kid (top cell) (gd (elems (gd cs cell.toNat).insts) i) i ∈ occAll cs cell := by
  rw [occAll, occF]
  refine List.mem_cons_of_mem _ (List.mem_flatMap.2 ⟨i, List.mem_range.2 hi, occF_head _ _ _⟩)
 have := h4 _ hm
 simp only [kid, top] at this
 rwa [cmpT_top hb.2.1] at this
theorem cmpo_r {a b : Int} (ha : 0 <= a ∧ a <= 7) (hb : 0 <= b ∧ b <= 7) : cmpo a b = (b % 4 + (if 4 <= b then -(a % 4) else a % 4) + 4) % 4 + 4 * (if 4 <= b then 1 - a / 4 else a / 4) := by
 have ea : a = 0 ∨ a = 1 ∨ a = 2 ∨ a = 3 ∨ a = 4 ∨ a = 5 ∨ a = 6 ∨ a = 7 := by omega
 have eb : b = 0 ∨ b = 1 ∨ b = 2 ∨ b = 3 ∨ b = 4 ∨ b = 5 ∨ b = 6 ∨ b = 7 := by omega
 rcases ea with rfl | rfl | rfl | rfl | rfl | rfl | rfl | rfl <;> rcases eb with rfl | rfl | rfl | rfl | rfl | rfl | rfl | rfl <;> decide
theorem elems_found {ns : List Inst} {i q : Nat} (h : i < ns.length) (hq : q < (elsOf (gd ns i)).length) : gd (elems ns) ((elems (ns.take i)).length + q) = ⟨(gd ns i).cell, elPlace (gd ns i) ((q % (gd ns i).cols.toNat : Nat) : Int) ((q / (gd ns i).cols.toNat : Nat) : Int)⟩ := by
 rw [elems_split h, List.append_assoc, gd_app_at, gd_app_l hq]
 have hr : gd (List.range ((gd ns i).rows.toNat * (gd ns i).cols.toNat)) q = q := range_gd (by rw [elsOf_len] at hq; exact hq)
 rw [elsOf, gd_map _ (by rw [elsOf_len] at hq; simpa using hq), hr]
def shs (xs : List Cell) : List (Sl Shape) := xs.map Cell.shapes
def lbs (xs : List Cell) : List (Sl Label) := xs.map Cell.labels
def ins (xs : List Cell) : List (Sl Inst) := xs.map Cell.insts
structure RLib (G : Gh) (L : List Ch) (v : Value) (xs : List Cell) : Prop where
  c : Rs G L cellT v xs
  s : RsE G L shapeT (shs xs)
  l : RsE G L labelT (lbs xs)
  n : RsE G L instT (ins xs)
theorem RLib.up {L' : List Ch} {v : Value} {xs : List Cell} (h : RLib G L v xs) [p : PickC L L'] : RLib G L' v xs := ⟨h.c.up, h.s.up, h.l.up, h.n.up⟩
theorem RLib.sa {v : Value} {xs : List Cell} (h : RLib G L v xs) {i : Nat} (hi : i < xs.length) : Rs G L shapeT (gd xs i).shapes.v (gd xs i).shapes.xs := by
 have := h.s i (by simpa [shs] using hi); rwa [shs, gd_map _ hi] at this
theorem RLib.la {v : Value} {xs : List Cell} (h : RLib G L v xs) {i : Nat} (hi : i < xs.length) : Rs G L labelT (gd xs i).labels.v (gd xs i).labels.xs := by
 have := h.l i (by simpa [lbs] using hi); rwa [lbs, gd_map _ hi] at this
theorem RLib.na {v : Value} {xs : List Cell} (h : RLib G L v xs) {i : Nat} (hi : i < xs.length) : Rs G L instT (gd xs i).insts.v (gd xs i).insts.xs := by
 have := h.n i (by simpa [ins] using hi); rwa [ins, gd_map _ hi] at this
theorem RLib.one {L' : List Ch} {v : Value} {xs : List Cell} (h : RLib G L v xs) {i : Nat} (hi : i < xs.length) [p : PickC L L'] : OneC G L' [.string (gd xs i).name, (gd xs i).shapes.v, (gd xs i).labels.v, (gd xs i).insts.v] :=
 OneC.val rfl (OneC.sl (SlF.r (h.sa hi)) (OneC.sl (SlF.r (h.la hi)) (OneC.sl (SlF.r (h.na hi)) OneC.nil)))
def lenL (ls : List Label) : Prop := ∀ i, i < ls.length -> (gd ls i).name.size <= 9223372036854775807
def lenC (cs : List ECell) : Prop := ∀ i, i < cs.length -> (gd cs i).name.size <= 9223372036854775807 ∧ lenL (gd cs i).labels
def few (cs : List ECell) : Prop := cs.length <= 1048576 ∧ ∀ i, i < cs.length -> (gd cs i).shapes.length <= 1048576 ∧ (gd cs i).labels.length <= 1048576 ∧ (gd cs i).insts.length <= 1048576
theorem Cv.grow3 {α β γ : Type} {e1 e2 e3 : TypeId} {F1 : FT α} {F2 : FT β} {F3 : FT γ} {u1 u2 u3 : Value} {us1 : List α} {us2 : List β} {us3 : List γ} {y1 y1' : List (Sl α)} {y2 y2' : List (Sl β)} {y3 y3' : List (Sl γ)} (h1 : y1' = y1 ++ [⟨u1, us1⟩]) (h2 : y2' = y2 ++ [⟨u2, us2⟩]) (h3 : y3' = y3 ++ [⟨u3, us3⟩]) :
  Cv (osl e1 F1 u1 us1 :: osl e2 F2 u2 us2 :: osl e3 F3 u3 us3 :: bagS e1 F1 y1 :: bagS e2 F2 y2 :: bagS e3 F3 y3 :: L) (bagS e1 F1 y1' :: bagS e2 F2 y2' :: bagS e3 F3 y3' :: L) :=
 (Cv.p (C := osl e1 F1 u1 us1 :: bagS e1 F1 y1 :: osl e2 F2 u2 us2 :: bagS e2 F2 y2 :: osl e3 F3 u3 us3 :: bagS e3 F3 y3 :: L)).trans ((Cv.grow h1).trans (Cv.cons ((Cv.grow h2).trans (Cv.cons (Cv.grow h3)))))
theorem lenC.one {xs : List Cell} (h : lenC (erCls xs)) {i : Nat} (hi : i < xs.length) : (gd xs i).name.size <= 9223372036854775807 ∧ lenL (gd xs i).labels.xs := by
 have := h i (by rw [erCls_len]; exact hi); rwa [erCls_gd hi] at this
set_option maxHeartbeats 1000000
def CellOk (c : Cell) : Prop := c.name.size <= 9 ∧ c.labels.xs = [] ∧ c.shapes.xs.length <= 101
def CellsOk (xs : List Cell) : Prop := ∀ i, i < xs.length -> CellOk (gd xs i)
def CellsL (xs : List Cell) : Prop := ∀ i, i < xs.length -> (gd xs i).name.size <= 9 ∧ (gd xs i).labels.xs = []
theorem map_set_same {α β : Type} [Inhabited α] {f : α -> β} {xs : List α} {i : Nat} {c : α} (hi : i < xs.length) (h : f c = f (gd xs i)) : (xs.set i c).map f = xs.map f := by
 rw [List.map_set, h]
 apply List.ext_getElem?
 intro j
 rw [List.getElem?_set]
 by_cases e : i = j
 ·subst e; simp [gd, hi]
 ·simp [e]
set_option maxHeartbeats 2000000
abbrev nmS : ByteArray := ByteArray.mk #[97, 98, 99, 100, 120, 121, 122, 48, 49, 57]
def dNm (bs : List UInt8) : Nat -> List UInt8 -> Pl -> List UInt8 × Pl
  | 0, l, p => (l, p)
  | n + 1, l, p => dNm bs n (l ++ [bt nmS (nx bs p 10).1.toNat]) (nx bs p 10).2
def dName (bs : List UInt8) (p : Pl) : ByteArray × Pl :=
  match nx bs p 3 with
  | (a, p1) => match dNm bs (1 + a).toNat [] p1 with
  | (l, p2) => (txt l, p2)
def dBox (bs : List UInt8) (p : Pl) : Rect × Pl :=
  match nx bs p 16 with
  | (a, p1) => match nx bs p1 16 with
  | (b, p2) => match nx bs p2 6 with
  | (c, p3) => match nx bs p3 6 with
  | (d, p4) => (⟨a - 8, b - 8, a - 8 + 1 + c, b - 8 + 1 + d⟩, p4)
def dShp (bs : List UInt8) (p : Pl) : Shape × Pl :=
  match nx bs p 8 with
  | (a, p1) => match dBox bs p1 with
  | (r, p2) => (⟨a, r⟩, p2)
def dLbl (bs : List UInt8) (p : Pl) : Label × Pl :=
  match nx bs p 8 with
  | (a, p1) => match nx bs p1 16 with
  | (x, p2) => match nx bs p2 16 with
  | (y, p3) => match dName bs p3 with
  | (n, p4) => (⟨a, ⟨x - 8, y - 8⟩, n⟩, p4)
def dCol (bs : List UInt8) (i : Inst) (p : Pl) : Inst × Pl :=
  match nx bs p 3 with
  | (a, p1) => if a = 0 then (match nx bs p1 2 with | (c, p2) => match nx bs p2 15 with | (d, p3) => (⟨i.cell, i.place, 2 + c, i.rows, d - 7, i.sy⟩, p3)) else (i, p1)
def dRow (bs : List UInt8) (i : Inst) (p : Pl) : Inst × Pl :=
  match nx bs p 4 with
  | (a, p1) => if a = 0 then (match nx bs p1 15 with | (d, p2) => (⟨i.cell, i.place, i.cols, 2, i.sx, d - 7⟩, p2)) else (i, p1)
def dFar (bs : List UInt8) (i : Inst) (p : Pl) : Inst × Pl :=
  match nx bs p 24 with
  | (a, p1) => if a = 0 then (⟨i.cell, ⟨i.place.o, i.place.x * 6, i.place.y⟩, i.cols, i.rows, i.sx, i.sy⟩, p1) else (i, p1)
def dIns (bs : List UInt8) (k : Int) (p : Pl) : Inst × Pl :=
  match nx bs p k with
  | (c, p1) => match nx bs p1 8 with
  | (o, p2) => match nx bs p2 24 with
  | (x, p3) => match nx bs p3 24 with
  | (y, p4) => match dCol bs ⟨c, ⟨o, x - 12, y - 12⟩, 1, 1, 0, 0⟩ p4 with
  | (i1, p5) => match dRow bs i1 p5 with
  | (i2, p6) => dFar bs i2 p6
def dShps (bs : List UInt8) : Nat -> List Shape -> Pl -> List Shape × Pl
  | 0, l, p => (l, p)
  | n + 1, l, p => dShps bs n (l ++ [(dShp bs p).1]) (dShp bs p).2
def dLbls (bs : List UInt8) : Nat -> List Label -> Pl -> List Label × Pl
  | 0, l, p => (l, p)
  | n + 1, l, p => dLbls bs n (l ++ [(dLbl bs p).1]) (dLbl bs p).2
def dInss (bs : List UInt8) (k : Int) : Nat -> List Inst -> Pl -> List Inst × Pl
  | 0, l, p => (l, p)
  | n + 1, l, p => dInss bs k n (l ++ [(dIns bs k p).1]) (dIns bs k p).2
def dCel (bs : List UInt8) (i : Int) (p : Pl) : ECell × Pl :=
  match dName bs p with
  | (nm, p1) => match nx bs p1 4 with
  | (a, p2) => match dShps bs a.toNat [] p2 with
  | (ss, p3) => match nx bs p3 3 with
  | (b, p4) => match dLbls bs b.toNat [] p4 with
  | (ls, p5) => match nx bs p5 3 with
  | (c, p6) => match (if 0 < i then dInss bs i c.toNat [] p6 else ([], p6)) with
  | (is, p7) => (⟨txt [UInt8.ofNat (97 + i.toNat)] ++ nm, ss, ls, is⟩, p7)
def dCels (bs : List UInt8) : Nat -> Int -> List ECell -> Pl -> List ECell × Pl
  | 0, _, l, p => (l, p)
  | n + 1, i, l, p => dCels bs n (i + 1) (l ++ [(dCel bs i p).1]) (dCel bs i p).2
def dLibF (bs : List UInt8) (p : Pl) : List ECell × Pl :=
  match nx bs p 4 with
  | (a, p1) => dCels bs (1 + a).toNat 0 [] p1
theorem dBox_s {b : Nat} {cv : Value} {bs : List UInt8} {p : Pl} (hcode : SL G byteT cv bs) (hp : OkP p) (k : ∀ r p', dBox bs p = (r, p') -> OkP p' -> R (vrect r) G (sPl b cv p' :: L)) : CallT Tryz.prog 58 #[.pointer (some ⟨b, 0, none⟩)] G (sPl b cv p :: L) R := by
 refine CallT.enter (args := _) Tryz.func58 rfl rfl (by kernel_rfl) rfl ?_
 refine WP.sr ?_
 refine RG.ot rfl (OT.alloc rfl Zr101 fun b2 => ?_)
 refine RG.nil (WP.sr (RG.p (PV.move rfl rfl) ?_))
 refine RG.callF (vs := [_, _]) rfl rfl En57 rfl (CallT.exB (b := b) (nextP_s hcode (by assumption) (by omega) (fun w6 pw6 ew6 ow6 hw6 => ?_)))
 refine RG.p (PV.sub rfl rfl rfl (by omega)) (RG.mr rfl (RG.nil (WP.sr (RG.p (PV.move rfl rfl) ?_))))
 refine RG.callF (vs := [_, _]) rfl rfl En57 rfl (CallT.exB (b := b) (nextP_s hcode (by assumption) (by omega) (fun w9 pw9 ew9 ow9 hw9 => ?_)))
 refine RG.p (PV.sub rfl rfl rfl (by omega)) (RG.mr rfl (RG.nil (WP.sr (RG.ml rfl (RG.ml rfl (RG.ml rfl (RG.p (PV.add rfl rfl rfl (by omega)) (RG.p (PV.move rfl rfl) ?_))))))))
 refine RG.callF (vs := [_, _]) rfl rfl En57 rfl (CallT.exB (b := b) (nextP_s hcode (by assumption) (by omega) (fun w16 pw16 ew16 ow16 hw16 => ?_)))
 refine RG.p (PV.add rfl rfl rfl (by omega)) (RG.ml rfl (RG.p (PV.add rfl rfl rfl (by omega)) (RG.p (PV.move rfl rfl) ?_)))
 refine RG.callF (vs := [_, _]) rfl rfl En57 rfl (CallT.exB (b := b) (nextP_s hcode (by assumption) (by omega) (fun w21 pw21 ew21 ow21 hw21 => ?_)))
 refine RG.p (PV.add rfl rfl rfl (by omega)) (RG.p (PV.build (vs := [(0, [vi _]), (1, [vi _]), (2, [vi _]), (3, [vi _])]) (out := [_, _, _, _]) rfl Zr101 Pl101 ⟨rfl, (Cl.c rfl), ⟨rfl, (Cl.c rfl), ⟨rfl, (Cl.c rfl), ⟨rfl, (Cl.c rfl), trivial⟩⟩⟩⟩ rfl) ?_)
 refine RG.ot rfl (OT.storeW (vs := [vi _, vi _, vi _, vi _]) rfl Sz101 rfl rfl (Cl.c rfl) rfl rfl (OneC.c rfl) ?_)
 refine RG.nil ?_
 exact WP.ret ⟨_, _, ResV.one rfl (RV1.cell rfl Ag101 rfl), Cv.p, k ⟨w6 - 8, w9 - 8, w6 - 8 + 1 + w16, w9 - 8 + 1 + w21⟩ pw21 (by simp only [dBox, ew6, ew9, ew16, ew21]) (by assumption)⟩
theorem nmS_len : nmS.size = 10 := rfl
theorem dName_s {b : Nat} {cv : Value} {bs : List UInt8} {p : Pl} (hcode : SL G byteT cv bs) (hp : OkP p) (k : ∀ n p', dName bs p = (n, p') -> OkP p' -> n.size <= 4 -> R (.string n) G (sPl b cv p' :: L)) : CallT Tryz.prog 166 #[.pointer (some ⟨b, 0, none⟩)] G (sPl b cv p :: L) R := by
 have hl10 : (ByteArray.mk #[97, 98, 99, 100, 120, 121, 122, 48, 49, 57]).size = 10 := nmS_len
 refine CallT.enter (args := _) Tryz.func166 rfl rfl (by kernel_rfl) rfl ?_
 refine WP.sr (RG.p (PV.mvS (.inr rfl) rfl) (RG.nil (WP.sr ?_)))
 refine RG.ot rfl (OT.bslice (F := byteT) (els := []) rfl El22 rfl (by decide) rfl (by decide) trivial fun v5 => ?_)
 refine RG.p (PV.asg (v := v5) rfl rfl) (RG.nil (WP.seq (WP.sr (RG.p (PV.move rfl rfl) ?_))))
 refine RG.callF (vs := [_, _]) rfl rfl En57 rfl (CallT.exB (b := b) (nextP_s hcode (by assumption) (by omega) (fun w7 pw7 ew7 ow7 hw7 => ?_)))
 refine RG.p (PV.add rfl rfl rfl (by omega)) (RG.mr rfl (RG.nil (WP.block ?_)))
 refine WP.loop4 [0] (fun (n : Int) (ys : List UInt8) (u : Value) (pp : Pl) => (0 <= n ∧ n <= 4) ∧ (ys.length : Int) + n <= 4 ∧ OkP pp ∧ dNm bs n.toNat ys pp = dNm bs (1 + w7).toNat [] pw7) (fun (n : Int) (ys : List UInt8) (u : Value) (pp : Pl) => [(4, vi n), (3, u)]) (fun (n : Int) (ys : List UInt8) (u : Value) (pp : Pl) => osl 5 byteT u ys :: sPl b cv pp :: L) (fun (n : Int) (ys : List UInt8) (u : Value) (pp : Pl) => n.toNat) (1 + w7) [] v5 pw7 ⟨by omega, by simp; omega, by assumption, rfl⟩ ⟨rfl, rfl, trivial⟩ Cv.p ?_
 rintro n ys u pp τ ⟨hn, hyl, hpp, hd⟩
 refine WP.seq (WP.sr (RG.ml rfl (RG.p (PV.gtr rfl rfl rfl) (RG.nil ?_))))
 refine WP.cond rfl (fun h2 => ?_) fun h2 => ?_
 ·have h2 := odt h2
  refine WP.skip (WP.seq (WP.block (WP.region (RG.p (PV.move (v := u) rfl rfl) (RG.p (PV.move rfl rfl) ?_)))))
  refine RG.callF (vs := [_, _]) rfl rfl En57 rfl (CallT.exB (b := b) (nextP_s hcode (by assumption) (by omega) (fun w15 pw15 ew15 ow15 hw15 => ?_)))
  refine RG.p (PV.idxStr (j := w15.toNat) rfl Tryz.underlying9 rfl rfl (by omega) (getBG (by omega))) ?_
  refine RG.ot rfl (OT.bslice (F := byteT) (els := [_]) rfl El22 rfl (by decide) rfl (by decide) ⟨rfl, (Cl.c rfl), trivial⟩ fun v17 => ?_)
  refine RG.ot rfl (OT.append (v := u) (u := v17) (F := byteT) rfl El22 rfl (by decide) rfl rfl Rs.o (OneL.c (fun _ => rfl)) rfl (by first | omega | (simp <;> omega)) fun v18 => ?_)
  refine RG.p (PV.asg (v := v18) rfl rfl) (RG.nil (WP.region (RG.ml rfl (RG.p (PV.sub rfl rfl rfl (by omega)) (RG.mr rfl (RG.nil ?_))))))
  have hd2 : dNm bs (n - 1).toNat (ys ++ [bt nmS w15.toNat]) pw15 = dNm bs (1 + w7).toNat [] pw7 := by
   rw [<- hd, show n.toNat = (n - 1).toNat + 1 by omega, dNm, ew15]
  exact ⟨rfl, n - 1, (ys ++ [bt nmS w15.toNat]), v18, pw15, ⟨by omega, by simp; omega, by assumption, hd2⟩, ⟨rfl, rfl, trivial⟩, ⟨rfl, trivial⟩, Cv.p, by omega⟩
 ·have h2 := odf h2
  rw [show n.toNat = 0 by omega, dNm] at hd
  have e : dName bs p = (txt ys, pp) := by simp only [dName, ew7, <- hd]
  refine WP.exit (WP.sr (RG.p (PV.move (v := u) rfl rfl) (RG.p (PV.convBS (v := u) rfl Tryz.underlying22 Tryz.underlying5 Tryz.underlying9 rfl Rs.o) (RG.p (PV.mvS (.inr rfl) rfl) (RG.nil ?_)))))
  exact WP.ret ⟨_, _, rv rfl rfl, Cv.p, k (txt ys) pp e hpp (by rw [txt_size]; omega)⟩
theorem dShp_s {b : Nat} {cv : Value} {bs : List UInt8} {p : Pl} (hcode : SL G byteT cv bs) (hp : OkP p) (k : ∀ r p', dShp bs p = (r, p') -> OkP p' -> -2 <= r.layer ∧ r.layer <= 9 -> R (vT shapeT r) G (sPl b cv p' :: L)) : CallT Tryz.prog 167 #[.pointer (some ⟨b, 0, none⟩)] G (sPl b cv p :: L) R := by
 refine CallT.enter (args := _) Tryz.func167 rfl rfl (by kernel_rfl) rfl ?_
 refine WP.sr ?_
 refine RG.ot rfl (OT.alloc rfl Zr109 fun b2 => ?_)
 refine RG.nil (WP.sr (RG.p (PV.move rfl rfl) ?_))
 refine RG.callF (vs := [_, _]) rfl rfl En57 rfl (CallT.exB (b := b) (nextP_s hcode (by assumption) (by omega) (fun w4 pw4 ew4 ow4 hw4 => ?_)))
 refine RG.p (PV.move rfl rfl) ?_
 refine RG.callF (vs := [_]) rfl rfl En58 rfl (CallT.exB (b := b) (dBox_s hcode (by assumption) (fun w6 pw6 ew6 ow6 => ?_)))
 refine RG.p (PV.build (vs := [(0, [vi _]), (1, [vi _, vi _, vi _, vi _])]) (out := [_, _, _, _, _]) rfl Zr109 Pl109 ⟨rfl, (Cl.c rfl), ⟨rfl, (Cl.c rfl), trivial⟩⟩ rfl) ?_
 refine RG.ot rfl (OT.storeW (vs := [vi _, vi _, vi _, vi _, vi _]) rfl Sz109 rfl rfl (Cl.c rfl) rfl rfl (OneC.c rfl) ?_)
 refine RG.nil ?_
 exact WP.ret ⟨_, _, ResV.one rfl (RV1.cell rfl Ag109 rfl), Cv.p, k ⟨w4, w6⟩ pw6 (by simp only [dShp, ew4, ew6]) (by assumption) ⟨by simp only; omega, by simp only; omega⟩⟩
theorem dLbl_s {b : Nat} {cv : Value} {bs : List UInt8} {p : Pl} (hcode : SL G byteT cv bs) (hp : OkP p) (k : ∀ r p', dLbl bs p = (r, p') -> OkP p' -> r.name.size <= 4 -> R (vT labelT r) G (sPl b cv p' :: L)) : CallT Tryz.prog 207 #[.pointer (some ⟨b, 0, none⟩)] G (sPl b cv p :: L) R := by
 refine CallT.enter (args := _) Tryz.func207 rfl rfl (by kernel_rfl) rfl ?_
 refine WP.sr ?_
 refine RG.ot rfl (OT.alloc rfl Zr182 fun b2 => ?_)
 refine RG.nil (WP.sr (RG.p (PV.move rfl rfl) ?_))
 refine RG.callF (vs := [_, _]) rfl rfl En57 rfl (CallT.exB (b := b) (nextP_s hcode (by assumption) (by omega) (fun w4 pw4 ew4 ow4 hw4 => ?_)))
 refine RG.p (PV.move rfl rfl) ?_
 refine RG.callF (vs := [_, _]) rfl rfl En57 rfl (CallT.exB (b := b) (nextP_s hcode (by assumption) (by omega) (fun w6 pw6 ew6 ow6 hw6 => ?_)))
 refine RG.p (PV.sub rfl rfl rfl (by omega)) (RG.p (PV.move rfl rfl) ?_)
 refine RG.callF (vs := [_, _]) rfl rfl En57 rfl (CallT.exB (b := b) (nextP_s hcode (by assumption) (by omega) (fun w9 pw9 ew9 ow9 hw9 => ?_)))
 refine RG.p (PV.sub rfl rfl rfl (by omega)) (RG.p (PV.build (vs := [(0, [vi _]), (1, [vi _])]) (out := [_, _]) rfl Zr156 Pl156 ⟨rfl, (Cl.c rfl), ⟨rfl, (Cl.c rfl), trivial⟩⟩ rfl) (RG.p (PV.move rfl rfl) ?_))
 refine RG.callF (vs := [_]) rfl rfl En166 rfl (CallT.exB (b := b) (dName_s hcode (by assumption) (fun w13 pw13 ew13 ow13 hw13 => ?_)))
 refine RG.p (PV.build (vs := [(0, [vi _]), (1, [vi _, vi _]), (2, [.string _])]) (out := [_, _, _, _]) rfl Zr182 Pl182 ⟨rfl, (Cl.c rfl), ⟨rfl, (Cl.c rfl), ⟨rfl, (Cl.c rfl), trivial⟩⟩⟩ rfl) ?_
 refine RG.ot rfl (OT.storeW (vs := [vi _, vi _, vi _, .string _]) rfl Sz182 rfl rfl (Cl.c rfl) rfl rfl (OneC.c rfl) ?_)
 refine RG.nil ?_
 exact WP.ret ⟨_, _, ResV.one rfl (RV1.cell rfl Ag182 rfl), Cv.p, k ⟨w4, ⟨w6 - 8, w9 - 8⟩, w13⟩ pw13 (by simp only [dLbl, ew4, ew6, ew9, ew13]) (by assumption) hw13⟩
theorem dIns_s {b : Nat} {cv : Value} {bs : List UInt8} {n : Int} {p : Pl} (hcode : SL G byteT cv bs) (hn : n <= 100) (hp : OkP p) (k : ∀ i p', dIns bs n p = (i, p') -> OkP p' -> R (vT instT i) G (sPl b cv p' :: L)) : CallT Tryz.prog 165 #[.pointer (some ⟨b, 0, none⟩), vi n] G (sPl b cv p :: L) R := by
 refine CallT.enter (args := _) Tryz.func165 rfl rfl (by kernel_rfl) rfl ?_
 refine WP.sr ?_
 refine RG.ot rfl (OT.alloc rfl Zr111 fun b4 => ?_)
 refine RG.nil (WP.sr (RG.p (PV.move rfl rfl) (RG.ml rfl ?_)))
 refine RG.callF (vs := [_, _]) rfl rfl En57 rfl (CallT.exB (b := b) (nextP_s hcode (by assumption) (by omega) (fun w8 pw8 ew8 ow8 hw8 => ?_)))
 refine RG.p (PV.move rfl rfl) ?_
 refine RG.callF (vs := [_, _]) rfl rfl En57 rfl (CallT.exB (b := b) (nextP_s hcode (by assumption) (by omega) (fun w10 pw10 ew10 ow10 hw10 => ?_)))
 refine RG.p (PV.move rfl rfl) ?_
 refine RG.callF (vs := [_, _]) rfl rfl En57 rfl (CallT.exB (b := b) (nextP_s hcode (by assumption) (by omega) (fun w12 pw12 ew12 ow12 hw12 => ?_)))
 refine RG.p (PV.sub rfl rfl rfl (by omega)) (RG.p (PV.move rfl rfl) ?_)
 refine RG.callF (vs := [_, _]) rfl rfl En57 rfl (CallT.exB (b := b) (nextP_s hcode (by assumption) (by omega) (fun w15 pw15 ew15 ow15 hw15 => ?_)))
 refine RG.p (PV.sub rfl rfl rfl (by omega)) (RG.p (PV.build (vs := [(0, [vi _]), (1, [vi _]), (2, [vi _])]) (out := [_, _, _]) rfl Zr87 Pl87 ⟨rfl, (Cl.c rfl), ⟨rfl, (Cl.c rfl), ⟨rfl, (Cl.c rfl), trivial⟩⟩⟩ rfl) (RG.p (PV.build (vs := [(0, [vi _]), (1, [vi _, vi _, vi _]), (2, [vi _]), (3, [vi _])]) (out := [_, _, _, _, _, _, _, _]) rfl Zr111 Pl111 ⟨rfl, (Cl.c rfl), ⟨rfl, (Cl.c rfl), ⟨rfl, (Cl.c rfl), ⟨rfl, (Cl.c rfl), trivial⟩⟩⟩⟩ rfl) ?_))
 refine RG.ot rfl (OT.alloc rfl Zr111 fun b5 => ?_)
 refine RG.ot rfl (OT.storeW (vs := [vi _, vi _, vi _, vi _, vi _, vi _, vi _, vi _]) rfl Sz111 rfl rfl (Cl.c rfl) rfl rfl (OneC.c rfl) ?_)
 refine RG.nil ?_
 refine WP.cut2 [0, 4, 5] (fun (x : Inst) (p1 : Pl) => OkP p1 ∧ dCol bs ⟨w8, ⟨w10, w12 - 12, w15 - 12⟩, 1, 1, 0, 0⟩ pw15 = (x, p1) ∧ x.place.x = w12 - 12) (fun (x : Inst) (p1 : Pl) => []) (fun (x : Inst) (p1 : Pl) => blk b5 111 (instT.enc x) :: sPl b cv p1 :: blk b4 111 [vi 0, vi 0, vi 0, vi 0, vi 0, vi 0, vi 0, vi 0] :: L) ?_ ?_
 refine WP.sr (RG.p (PV.move rfl rfl) ?_)
 refine RG.callF (vs := [_, _]) rfl rfl En57 rfl (CallT.exB (b := b) (nextP_s hcode (by assumption) (by omega) (fun w20 pw20 ew20 ow20 hw20 => ?_)))
 refine RG.p (PV.eql rfl rfl rfl) (RG.nil ?_)
 ·refine WP.cond rfl (fun h2 => ?_) fun h2 => ?_
  ·have h2 := odt h2
   refine WP.sr (RG.p (PV.move rfl rfl) ?_)
   refine RG.callF (vs := [_, _]) rfl rfl En57 rfl (CallT.exB (b := b) (nextP_s hcode (by assumption) (by omega) (fun w23 pw23 ew23 ow23 hw23 => ?_)))
   refine RG.p (PV.add rfl rfl rfl (by omega)) (RG.p (PV.field rfl Fo111_2 rfl) ?_)
   refine RG.ot rfl (OT.storeB (vs := [vi _]) (cs' := [_, _, _, _, _, _, _, _]) rfl Sz2 rfl rfl (Cl.c rfl) rfl (OneC.c rfl) rfl rfl ?_)
   refine RG.nil (WP.region (RG.p (PV.move rfl rfl) ?_))
   refine RG.callF (vs := [_, _]) rfl rfl En57 rfl (CallT.exB (b := b) (nextP_s hcode (by assumption) (by omega) (fun w27 pw27 ew27 ow27 hw27 => ?_)))
   refine RG.p (PV.sub rfl rfl rfl (by omega)) (RG.p (PV.field rfl Fo111_4 rfl) ?_)
   refine RG.ot rfl (OT.storeB (vs := [vi _]) (cs' := [_, _, _, _, _, _, _, _]) rfl Sz2 rfl rfl (Cl.c rfl) rfl (OneC.c rfl) rfl rfl ?_)
   refine RG.nil ?_
   exact ⟨rfl, ⟨w8, ⟨w10, w12 - 12, w15 - 12⟩, 2 + w23, 1, w27 - 7, 0⟩, pw27, ⟨by assumption, by simp only [dCol, ew20, h2, if_true, ew23, ew27], rfl⟩, trivial, ⟨rfl, rfl, rfl, trivial⟩, Cv.p⟩
  ·have h2 := odf h2
   refine WP.skip ?_
   exact ⟨rfl, ⟨w8, ⟨w10, w12 - 12, w15 - 12⟩, 1, 1, 0, 0⟩, pw20, ⟨by assumption, by simp only [dCol, ew20, h2, if_false], rfl⟩, trivial, ⟨rfl, rfl, rfl, trivial⟩, Cv.p⟩
 rintro x p1 τ1 ⟨g1, g2, gx⟩
 refine WP.cut2 [0, 4, 5] (fun (y : Inst) (p2 : Pl) => OkP p2 ∧ dRow bs x p1 = (y, p2) ∧ y.place.x = w12 - 12) (fun (y : Inst) (p2 : Pl) => []) (fun (y : Inst) (p2 : Pl) => blk b5 111 (instT.enc y) :: sPl b cv p2 :: blk b4 111 [vi 0, vi 0, vi 0, vi 0, vi 0, vi 0, vi 0, vi 0] :: L) ?_ ?_
 refine WP.sr (RG.p (PV.move rfl rfl) ?_)
 refine RG.callF (vs := [_, _]) rfl rfl En57 rfl (CallT.exB (b := b) (nextP_s hcode (by assumption) (by omega) (fun w31 pw31 ew31 ow31 hw31 => ?_)))
 refine RG.p (PV.eql rfl rfl rfl) (RG.nil ?_)
 ·refine WP.cond rfl (fun h3 => ?_) fun h3 => ?_
  ·have h3 := odt h3
   refine WP.sr (RG.p (PV.field rfl Fo111_3 rfl) ?_)
   refine RG.ot rfl (OT.storeB (vs := [vi _]) (cs' := [_, _, _, _, _, _, _, _]) rfl Sz2 rfl rfl (Cl.c rfl) rfl (OneC.c rfl) rfl rfl ?_)
   refine RG.nil (WP.region (RG.p (PV.move rfl rfl) ?_))
   refine RG.callF (vs := [_, _]) rfl rfl En57 rfl (CallT.exB (b := b) (nextP_s hcode (by assumption) (by omega) (fun w35 pw35 ew35 ow35 hw35 => ?_)))
   refine RG.p (PV.sub rfl rfl rfl (by omega)) (RG.p (PV.field rfl Fo111_5 rfl) ?_)
   refine RG.ot rfl (OT.storeB (vs := [vi _]) (cs' := [_, _, _, _, _, _, _, _]) rfl Sz2 rfl rfl (Cl.c rfl) rfl (OneC.c rfl) rfl rfl ?_)
   refine RG.nil ?_
   exact ⟨rfl, ⟨x.cell, x.place, x.cols, 2, x.sx, w35 - 7⟩, pw35, ⟨by assumption, by simp only [dRow, ew31, h3, if_true, ew35], gx⟩, trivial, ⟨rfl, rfl, rfl, trivial⟩, Cv.p⟩
  ·have h3 := odf h3
   refine WP.skip ?_
   exact ⟨rfl, x, pw31, ⟨by assumption, by simp only [dRow, ew31, h3, if_false], gx⟩, trivial, ⟨rfl, rfl, rfl, trivial⟩, Cv.p⟩
 rintro y p2 τ2 ⟨g3, g4, gy⟩
 refine WP.cut2 [4, 5] (fun (z : Inst) (p3 : Pl) => OkP p3 ∧ dFar bs y p2 = (z, p3)) (fun (z : Inst) (p3 : Pl) => []) (fun (z : Inst) (p3 : Pl) => blk b5 111 (instT.enc z) :: sPl b cv p3 :: blk b4 111 [vi 0, vi 0, vi 0, vi 0, vi 0, vi 0, vi 0, vi 0] :: L) ?_ ?_
 refine WP.sr (RG.p (PV.move rfl rfl) ?_)
 refine RG.callF (vs := [_, _]) rfl rfl En57 rfl (CallT.exB (b := b) (nextP_s hcode (by assumption) (by omega) (fun w39 pw39 ew39 ow39 hw39 => ?_)))
 refine RG.p (PV.eql rfl rfl rfl) (RG.nil ?_)
 ·refine WP.cond rfl (fun h4 => ?_) fun h4 => ?_
  ·have h4 := odt h4
   refine WP.region (RG.p (PV.field rfl Fo111_1 rfl) (RG.p (PV.field rfl Fo87_1 rfl) (RG.p (PV.load1 rfl Sc2 rfl (Rd.blk rfl)) (RG.p (PV.mul rfl rfl rfl (by omega)) (RG.p (PV.field rfl Fo111_1 rfl) (RG.p (PV.field rfl Fo87_1 rfl) ?_))))))
   refine RG.ot rfl (OT.storeB (vs := [vi _]) (cs' := [_, _, _, _, _, _, _, _]) rfl Sz2 rfl rfl (Cl.c rfl) rfl (OneC.c rfl) rfl rfl ?_)
   refine RG.nil ?_
   exact ⟨rfl, ⟨y.cell, ⟨y.place.o, y.place.x * 6, y.place.y⟩, y.cols, y.rows, y.sx, y.sy⟩, pw39, ⟨by assumption, by simp only [dFar, ew39, h4, if_true]⟩, trivial, ⟨rfl, rfl, trivial⟩, Cv.p⟩
  ·have h4 := odf h4
   refine WP.skip ?_
   exact ⟨rfl, y, pw39, ⟨by assumption, by simp only [dFar, ew39, h4, if_false]⟩, trivial, ⟨rfl, rfl, trivial⟩, Cv.p⟩
 rintro z p3 τ3 ⟨g5, g6⟩
 refine WP.sr (RG.p (PV.loadW rfl Ag111 rfl rfl) ?_)
 refine RG.ot rfl (OT.storeW (vs := [vi _, vi _, vi _, vi _, vi _, vi _, vi _, vi _]) rfl Sz111 rfl rfl (Cl.c rfl) rfl rfl (OneC.c rfl) ?_)
 refine RG.nil ?_
 exact WP.ret ⟨_, _, ResV.one rfl (RV1.cell rfl Ag111 rfl), Cv.p, k z p3 (by simp only [dIns, ew8, ew10, ew12, ew15, g2, g4, g6]) g5⟩
abbrev vrule (r : Rule) : Value := vT ruleT r
def paired (k : Int) : Bool := decide (k = 2) || decide (k = 3)
def okVal (r : Rule) : Bool := if r.kind = 4 then within r.value 1 6400 else if r.kind = 5 then within r.value 4 40 else within r.value 1 8
def okPct (r : Rule) : Bool := if r.kind = 5 then within r.percent 1 100 else decide (r.percent = 0)
def okOther (r : Rule) : Bool := bif paired r.kind then within r.other 0 7 && !decide (r.other = r.layer) else decide (r.other = 0)
def validRule (r : Rule) : Bool := within r.kind 0 5 && within r.layer 0 7 && okOther r && okVal r && okPct r
theorem l16In_s {a b c : Int} (k : R (.bool (within a b c)) G L) : CallT Tryz.prog 82 #[vi a, vi b, vi c] G L R := by
 refine CallT.enter (args := _) Tryz.func82 rfl rfl (by kernel_rfl) rfl ?_
 refine WP.sr (RG.br rfl (RG.nil (WP.sr (RG.ml rfl (RG.ml rfl (RG.p (PV.geq rfl rfl rfl) (RG.bl rfl ?_)))))))
 refine RG.g rfl (fun hp => (PV.mvI (.inl rfl) rfl)) ?_
 refine RG.g rfl (fun hp => (PV.mvI (.inl rfl) rfl)) ?_
 refine RG.g rfl (fun hp => (PV.leq rfl (gt' hp) (gt' hp))) ?_
 refine RG.p (PV.pickA rfl rfl (fun hq => gt' (geqT hq)) rfl) (RG.br rfl (RG.nil ?_))
 exact WP.ret ⟨_, _, rv rfl rfl, Cv.p, k⟩
theorem l16Paired_s {a : Int} (k : R (.bool (paired a)) G L) : CallT Tryz.prog 84 #[vi a] G L R := by
 refine CallT.enter (args := _) Tryz.func84 rfl rfl (by kernel_rfl) rfl ?_
 refine WP.sr (RG.br rfl (RG.nil (WP.sr (RG.ml rfl (RG.p (PV.eql rfl rfl rfl) (RG.bl rfl ?_))))))
 refine RG.g rfl (fun hp => (PV.mvI (.inl rfl) rfl)) ?_
 refine RG.g rfl (fun hp => (PV.eql rfl (gt' hp) rfl)) ?_
 refine RG.p (PV.pickO rfl rfl rfl (fun hq => gt' (geqF hq))) (RG.br rfl (RG.nil ?_))
 exact WP.ret ⟨_, _, rv rfl rfl, Cv.p, k⟩
theorem hasOther_s {a : Int} (k : R (.bool (paired a)) G L) : CallT Tryz.prog 86 #[vi a] G L R := by
 refine CallT.enter (args := _) Tryz.func86 rfl rfl (by kernel_rfl) rfl ?_
 refine WP.sr (RG.br rfl (RG.nil (WP.sr (RG.ml rfl (RG.p (PV.eql rfl rfl rfl) (RG.bl rfl ?_))))))
 refine RG.g rfl (fun hp => (PV.mvI (.inl rfl) rfl)) ?_
 refine RG.g rfl (fun hp => (PV.eql rfl (gt' hp) rfl)) ?_
 refine RG.p (PV.pickO rfl rfl rfl (fun hq => gt' (geqF hq))) (RG.br rfl (RG.nil ?_))
 exact WP.ret ⟨_, _, rv rfl rfl, Cv.p, k⟩
theorem l20Paired_s {r : Rule} (k : R (.bool (paired r.kind)) G L) : CallT Tryz.prog 75 #[vrule r] G L R := by
 refine CallT.enter (args := _) Tryz.func75 rfl rfl (by kernel_rfl) rfl ?_
 refine WP.sr ?_
 refine RG.ot rfl (OT.box (cs := ruleT.enc r) rfl rfl rfl fun b1 => ?_)
 refine RG.br rfl (RG.nil (WP.sr (RG.p (PV.field rfl Fo42_0 rfl) (RG.p (PV.load1 rfl Sc2 rfl (Rd.blk rfl)) (RG.p (PV.eql rfl rfl rfl) (RG.bl rfl ?_))))))
 refine RG.g rfl (fun hp => (PV.field rfl Fo42_0 rfl)) ?_
 refine RG.g rfl (fun hp => (PV.load1 rfl Sc2 (gt' hp) (Rd.blk rfl))) ?_
 refine RG.g rfl (fun hp => (PV.eql rfl (gt' hp) rfl)) ?_
 refine RG.p (PV.pickO rfl rfl rfl (fun hq => gt' (geqF hq))) (RG.br rfl (RG.nil ?_))
 exact WP.ret ⟨_, _, rv rfl rfl, Cv.p, k⟩
theorem l16Value_s {r : Rule} (k : R (.bool (okVal r)) G L) : CallT Tryz.prog 83 #[vrule r] G L R := by
 refine CallT.enter (args := _) Tryz.func83 rfl rfl (by kernel_rfl) rfl ?_
 refine WP.sr ?_
 refine RG.ot rfl (OT.box (cs := ruleT.enc r) rfl rfl rfl fun b1 => ?_)
 refine RG.br rfl (RG.nil (WP.seq (WP.sr (RG.p (PV.field rfl Fo42_0 rfl) (RG.p (PV.load1 rfl Sc2 rfl (Rd.blk rfl)) (RG.nil (WP.block (WP.sr (RG.p (PV.eql rfl rfl rfl) (RG.br rfl (RG.nil ?_)))))))))))
 refine WP.cond rfl (fun h1 => ?_) fun h1 => ?_
 ·have h1 := odt h1
  rw [okVal, if_pos h1] at k
  refine WP.sr (RG.p (PV.field rfl Fo42_3 rfl) (RG.p (PV.load1 rfl Sc2 rfl (Rd.blk rfl)) ?_))
  refine RG.callF (vs := [_, _, _]) rfl rfl En82 rfl (l16In_s ?_)
  refine RG.br rfl (RG.nil ?_)
  exact WP.ret ⟨_, _, rv rfl rfl, Cv.p, k⟩
 ·have h1 := odf h1
  rw [okVal, if_neg h1] at k
  refine WP.sr (RG.p (PV.eql rfl rfl rfl) (RG.br rfl (RG.nil ?_)))
  refine WP.cond rfl (fun h2 => ?_) fun h2 => ?_
  ·have h2 := odt h2
   rw [if_pos h2] at k
   refine WP.sr (RG.p (PV.field rfl Fo42_3 rfl) (RG.p (PV.load1 rfl Sc2 rfl (Rd.blk rfl)) ?_))
   refine RG.callF (vs := [_, _, _]) rfl rfl En82 rfl (l16In_s ?_)
   refine RG.br rfl (RG.nil ?_)
   exact WP.ret ⟨_, _, rv rfl rfl, Cv.p, k⟩
  ·have h2 := odf h2
   rw [if_neg h2] at k
   refine WP.skip (WP.sr (RG.p (PV.field rfl Fo42_3 rfl) (RG.p (PV.load1 rfl Sc2 rfl (Rd.blk rfl)) ?_)))
   refine RG.callF (vs := [_, _, _]) rfl rfl En82 rfl (l16In_s ?_)
   refine RG.br rfl (RG.nil ?_)
   exact WP.ret ⟨_, _, rv rfl rfl, Cv.p, k⟩
theorem okOther_false {r : Rule} (h : (paired r.kind && (!within r.other 0 7 || decide (r.other = r.layer)) || !paired r.kind && !decide (r.other = 0)) = true) : okOther r = false := by
 unfold okOther; revert h
 cases paired r.kind <;> cases within r.other 0 7 <;> cases decide (r.other = r.layer) <;> cases decide (r.other = 0) <;> simp
theorem okOther_true {r : Rule} (h : (paired r.kind && (!within r.other 0 7 || decide (r.other = r.layer)) || !paired r.kind && !decide (r.other = 0)) = false) : okOther r = true := by
 unfold okOther; revert h
 cases paired r.kind <;> cases within r.other 0 7 <;> cases decide (r.other = r.layer) <;> cases decide (r.other = 0) <;> simp
theorem validRule_s {r : Rule} (k : R (.bool (validRule r)) G L) : CallT Tryz.prog 41 #[vrule r] G L R := by
 refine CallT.enter (args := _) Tryz.func41 rfl rfl (by kernel_rfl) rfl ?_
 refine WP.sr ?_
 refine RG.ot rfl (OT.box (cs := ruleT.enc r) rfl rfl rfl fun b1 => ?_)
 refine RG.br rfl (RG.nil (WP.seq (WP.sr (RG.p (PV.field rfl Fo42_0 rfl) (RG.p (PV.load1 rfl Sc2 rfl (Rd.blk rfl)) ?_)))))
 refine RG.callF (vs := [_, _, _]) rfl rfl En82 rfl (l16In_s ?_)
 refine RG.p (PV.not rfl rfl) (RG.bl rfl ?_)
 refine RG.g rfl (fun hp => (PV.field rfl Fo42_1 rfl)) ?_
 refine RG.g rfl (fun hp => (PV.load1 rfl Sc2 (gt' hp) (Rd.blk rfl))) ?_
 refine RG.gsC rfl rfl rfl rfl En82 (fun hp => ⟨_, (acons (gt' hp) (acons rfl (acons rfl anil))), l16In_s ⟨rfl, rfl, rfl⟩⟩) ?_
 refine RG.g rfl (fun hp => (PV.not rfl (gt' hp))) ?_
 refine RG.p (PV.pickO rfl rfl rfl (fun hq => gt' (geqF hq))) (RG.bl rfl ?_)
 refine RG.g rfl (fun hp => (PV.loadW rfl Ag42 rfl rfl)) ?_
 refine RG.gsC rfl rfl rfl rfl En83 (fun hp => ⟨_, (acons (gt' hp) anil), l16Value_s ⟨rfl, rfl, rfl⟩⟩) ?_
 refine RG.g rfl (fun hp => (PV.not rfl (gt' hp))) ?_
 refine RG.p (PV.pickO rfl rfl rfl (fun hq => gt' (geqF hq))) (RG.nil ?_)
 refine WP.cond rfl (fun h1 => ?_) fun h1 => ?_
 ·have e : validRule r = false := by
   unfold validRule; revert h1
   cases within r.kind 0 5 <;> cases within r.layer 0 7 <;> cases okVal r <;> simp
  rw [e] at k
  refine WP.sr (RG.br rfl (RG.nil ?_))
  exact WP.ret ⟨_, _, rv rfl rfl, Cv.p, k⟩
 ·have e : validRule r = (okOther r && okPct r) := by
   unfold validRule; revert h1
   cases within r.kind 0 5 <;> cases within r.layer 0 7 <;> cases okVal r <;> simp
  rw [e] at k
  refine WP.skip (WP.seq (WP.sr (RG.p (PV.field rfl Fo42_0 rfl) (RG.p (PV.load1 rfl Sc2 rfl (Rd.blk rfl)) ?_))))
  refine RG.callF (vs := [_]) rfl rfl En84 rfl (l16Paired_s ?_)
  refine RG.bl rfl ?_
  refine RG.g rfl (fun hp => (PV.field rfl Fo42_2 rfl)) ?_
  refine RG.g rfl (fun hp => (PV.load1 rfl Sc2 (gt' hp) (Rd.blk rfl))) ?_
  refine RG.gsC rfl rfl rfl rfl En82 (fun hp => ⟨_, (acons (gt' hp) (acons rfl (acons rfl anil))), l16In_s ⟨rfl, rfl, rfl⟩⟩) ?_
  refine RG.g rfl (fun hp => (PV.not rfl (gt' hp))) ?_
  refine RG.g rfl (fun hp => (PV.mvB (.inl rfl) (gt' hp))) ?_
  refine RG.gs2 rfl rfl rfl (fun hp => (PV.field rfl Fo42_2 rfl)) (RG.gs2 rfl rfl rfl (fun hp => (PV.load1 rfl Sc2 (gt' hp) (Rd.blk rfl))) (RG.gs2 rfl rfl rfl (fun hp => (PV.field rfl Fo42_1 rfl)) (RG.gs2 rfl rfl rfl (fun hp => (PV.load1 rfl Sc2 (gt' hp) (Rd.blk rfl))) (RG.gs2 rfl rfl rfl (fun hp => (PV.eql rfl (gt' hp) (gt' hp))) ?_))))
  refine RG.g rfl (fun hp => (PV.pickO rfl (gt' hp) rfl (fun hq => gt' (gandF hp hq)))) ?_
  refine RG.p (PV.pickA rfl rfl (fun hq => gt' (geqT hq)) rfl) (RG.bl rfl ?_)
  refine RG.g rfl (fun hp => (PV.field rfl Fo42_0 rfl)) ?_
  refine RG.g rfl (fun hp => (PV.load1 rfl Sc2 (gt' hp) (Rd.blk rfl))) ?_
  refine RG.gsC rfl rfl rfl rfl En84 (fun hp => ⟨_, (acons (gt' hp) anil), l16Paired_s ⟨rfl, rfl, rfl⟩⟩) ?_
  refine RG.g rfl (fun hp => (PV.not rfl (gt' hp))) ?_
  refine RG.g rfl (fun hp => (PV.mvB (.inl rfl) (gt' hp))) ?_
  refine RG.gs2 rfl rfl rfl (fun hp => (PV.field rfl Fo42_2 rfl)) (RG.gs2 rfl rfl rfl (fun hp => (PV.load1 rfl Sc2 (gt' hp) (Rd.blk rfl))) (RG.gs2 rfl rfl rfl (fun hp => (PV.neq rfl (gt' hp) rfl)) ?_))
  refine RG.g rfl (fun hp => (PV.pickA rfl (gt' hp) (fun hq => gt' (gandT hp hq)) rfl)) ?_
  refine RG.p (PV.pickO rfl rfl rfl (fun hq => gt' (geqF hq))) (RG.nil ?_)
  refine WP.cond rfl (fun h2 => ?_) fun h2 => ?_
  ·rw [okOther_false h2, Bool.false_and] at k
   refine WP.sr (RG.br rfl (RG.nil ?_))
   exact WP.ret ⟨_, _, rv rfl rfl, Cv.p, k⟩
  ·rw [okOther_true h2, Bool.true_and] at k
   refine WP.skip (WP.seq (WP.sr (RG.p (PV.field rfl Fo42_0 rfl) (RG.p (PV.load1 rfl Sc2 rfl (Rd.blk rfl)) (RG.p (PV.eql rfl rfl rfl) (RG.nil ?_))))))
   refine WP.cond rfl (fun h3 => ?_) fun h3 => ?_
   ·have h3 := odt h3
    rw [okPct, if_pos h3] at k
    refine WP.sr (RG.p (PV.field rfl Fo42_4 rfl) (RG.p (PV.load1 rfl Sc2 rfl (Rd.blk rfl)) ?_))
    refine RG.callF (vs := [_, _, _]) rfl rfl En82 rfl (l16In_s ?_)
    refine RG.br rfl (RG.nil ?_)
    exact WP.ret ⟨_, _, rv rfl rfl, Cv.p, k⟩
   ·have h3 := odf h3
    rw [okPct, if_neg h3] at k
    refine WP.skip (WP.sr (RG.p (PV.field rfl Fo42_4 rfl) (RG.p (PV.load1 rfl Sc2 rfl (Rd.blk rfl)) (RG.p (PV.eql rfl rfl rfl) (RG.br rfl (RG.nil ?_))))))
    exact WP.ret ⟨_, _, rv rfl rfl, Cv.p, k⟩
theorem validRule_i {r : Rule} (k : R (.bool (validRule r)) G L) : CallT Tryz.prog 47 #[vrule r] G L R := by
 refine CallT.enter (args := _) Tryz.func47 rfl rfl (by kernel_rfl) rfl ?_
 refine WP.sr ?_
 refine RG.ot rfl (OT.box (cs := ruleT.enc r) rfl rfl rfl fun b1 => ?_)
 refine RG.br rfl (RG.nil (WP.seq (WP.sr (RG.p (PV.field rfl Fo42_0 rfl) (RG.p (PV.load1 rfl Sc2 rfl (Rd.blk rfl)) ?_)))))
 refine RG.callF (vs := [_, _, _]) rfl rfl En56 rfl (within_s ?_)
 refine RG.p (PV.not rfl rfl) (RG.bl rfl ?_)
 refine RG.g rfl (fun hp => (PV.field rfl Fo42_1 rfl)) ?_
 refine RG.g rfl (fun hp => (PV.load1 rfl Sc2 (gt' hp) (Rd.blk rfl))) ?_
 refine RG.gsC rfl rfl rfl rfl En56 (fun hp => ⟨_, (acons (gt' hp) (acons rfl (acons rfl anil))), within_s ⟨rfl, rfl, rfl⟩⟩) ?_
 refine RG.g rfl (fun hp => (PV.not rfl (gt' hp))) ?_
 refine RG.p (PV.pickO rfl rfl rfl (fun hq => gt' (geqF hq))) (RG.nil ?_)
 refine WP.cond rfl (fun h1 => ?_) fun h1 => ?_
 ·have e : validRule r = false := by
   unfold validRule; revert h1
   cases within r.kind 0 5 <;> cases within r.layer 0 7 <;> simp
  rw [e] at k
  refine WP.sr (RG.br rfl (RG.nil ?_))
  exact WP.ret ⟨_, _, rv rfl rfl, Cv.p, k⟩
 ·have e : validRule r = (okOther r && (okVal r && okPct r)) := by
   unfold validRule; revert h1
   cases within r.kind 0 5 <;> cases within r.layer 0 7 <;> simp [Bool.and_assoc]
  rw [e] at k
  refine WP.skip (WP.seq (WP.sr (RG.p (PV.field rfl Fo42_0 rfl) (RG.p (PV.load1 rfl Sc2 rfl (Rd.blk rfl)) ?_))))
  refine RG.callF (vs := [_]) rfl rfl En86 rfl (hasOther_s ?_)
  refine RG.bl rfl ?_
  refine RG.g rfl (fun hp => (PV.field rfl Fo42_2 rfl)) ?_
  refine RG.g rfl (fun hp => (PV.load1 rfl Sc2 (gt' hp) (Rd.blk rfl))) ?_
  refine RG.gsC rfl rfl rfl rfl En56 (fun hp => ⟨_, (acons (gt' hp) (acons rfl (acons rfl anil))), within_s ⟨rfl, rfl, rfl⟩⟩) ?_
  refine RG.g rfl (fun hp => (PV.not rfl (gt' hp))) ?_
  refine RG.g rfl (fun hp => (PV.mvB (.inl rfl) (gt' hp))) ?_
  refine RG.gs2 rfl rfl rfl (fun hp => (PV.field rfl Fo42_2 rfl)) (RG.gs2 rfl rfl rfl (fun hp => (PV.load1 rfl Sc2 (gt' hp) (Rd.blk rfl))) (RG.gs2 rfl rfl rfl (fun hp => (PV.field rfl Fo42_1 rfl)) (RG.gs2 rfl rfl rfl (fun hp => (PV.load1 rfl Sc2 (gt' hp) (Rd.blk rfl))) (RG.gs2 rfl rfl rfl (fun hp => (PV.eql rfl (gt' hp) (gt' hp))) ?_))))
  refine RG.g rfl (fun hp => (PV.pickO rfl (gt' hp) rfl (fun hq => gt' (gandF hp hq)))) ?_
  refine RG.p (PV.pickA rfl rfl (fun hq => gt' (geqT hq)) rfl) (RG.bl rfl ?_)
  refine RG.g rfl (fun hp => (PV.field rfl Fo42_0 rfl)) ?_
  refine RG.g rfl (fun hp => (PV.load1 rfl Sc2 (gt' hp) (Rd.blk rfl))) ?_
  refine RG.gsC rfl rfl rfl rfl En86 (fun hp => ⟨_, (acons (gt' hp) anil), hasOther_s ⟨rfl, rfl, rfl⟩⟩) ?_
  refine RG.g rfl (fun hp => (PV.not rfl (gt' hp))) ?_
  refine RG.g rfl (fun hp => (PV.mvB (.inl rfl) (gt' hp))) ?_
  refine RG.gs2 rfl rfl rfl (fun hp => (PV.field rfl Fo42_2 rfl)) (RG.gs2 rfl rfl rfl (fun hp => (PV.load1 rfl Sc2 (gt' hp) (Rd.blk rfl))) (RG.gs2 rfl rfl rfl (fun hp => (PV.neq rfl (gt' hp) rfl)) ?_))
  refine RG.g rfl (fun hp => (PV.pickA rfl (gt' hp) (fun hq => gt' (gandT hp hq)) rfl)) ?_
  refine RG.p (PV.pickO rfl rfl rfl (fun hq => gt' (geqF hq))) (RG.nil ?_)
  refine WP.cond rfl (fun h2 => ?_) fun h2 => ?_
  ·rw [okOther_false h2, Bool.false_and] at k
   refine WP.sr (RG.br rfl (RG.nil ?_))
   exact WP.ret ⟨_, _, rv rfl rfl, Cv.p, k⟩
  ·rw [okOther_true h2, Bool.true_and] at k
   refine WP.skip (WP.seq (WP.sr (RG.p (PV.field rfl Fo42_0 rfl) (RG.p (PV.load1 rfl Sc2 rfl (Rd.blk rfl)) (RG.nil (WP.block (WP.sr (RG.p (PV.eql rfl rfl rfl) (RG.br rfl (RG.nil ?_))))))))))
   refine WP.cond rfl (fun h3 => ?_) fun h3 => ?_
   ·have h3 := odt h3
    rw [okVal, if_pos h3, okPct, if_neg (by omega)] at k
    refine WP.sr (RG.p (PV.field rfl Fo42_3 rfl) (RG.p (PV.load1 rfl Sc2 rfl (Rd.blk rfl)) ?_))
    refine RG.callF (vs := [_, _, _]) rfl rfl En56 rfl (within_s ?_)
    refine RG.bl rfl ?_
    refine RG.g rfl (fun hp => (PV.field rfl Fo42_4 rfl)) ?_
    refine RG.g rfl (fun hp => (PV.load1 rfl Sc2 (gt' hp) (Rd.blk rfl))) ?_
    refine RG.g rfl (fun hp => (PV.eql rfl (gt' hp) rfl)) ?_
    refine RG.p (PV.pickA rfl rfl (fun hq => gt' (geqT hq)) rfl) (RG.br rfl (RG.nil ?_))
    exact WP.ret ⟨_, _, rv rfl rfl, Cv.p, k⟩
   ·have h3 := odf h3
    rw [okVal, if_neg h3] at k
    refine WP.sr (RG.p (PV.eql rfl rfl rfl) (RG.br rfl (RG.nil ?_)))
    refine WP.cond rfl (fun h4 => ?_) fun h4 => ?_
    ·have h4 := odt h4
     rw [if_pos h4, okPct, if_pos h4] at k
     refine WP.sr (RG.p (PV.field rfl Fo42_3 rfl) (RG.p (PV.load1 rfl Sc2 rfl (Rd.blk rfl)) ?_))
     refine RG.callF (vs := [_, _, _]) rfl rfl En56 rfl (within_s ?_)
     refine RG.bl rfl ?_
     refine RG.g rfl (fun hp => (PV.field rfl Fo42_4 rfl)) ?_
     refine RG.g rfl (fun hp => (PV.load1 rfl Sc2 (gt' hp) (Rd.blk rfl))) ?_
     refine RG.gsC rfl rfl rfl rfl En56 (fun hp => ⟨_, (acons (gt' hp) (acons rfl (acons rfl anil))), within_s ⟨rfl, rfl, rfl⟩⟩) ?_
     refine RG.p (PV.pickA rfl rfl (fun hq => gt' (geqT hq)) rfl) (RG.br rfl (RG.nil ?_))
     exact WP.ret ⟨_, _, rv rfl rfl, Cv.p, k⟩
    ·have h4 := odf h4
     rw [if_neg h4, okPct, if_neg h4] at k
     refine WP.skip (WP.sr (RG.p (PV.field rfl Fo42_3 rfl) (RG.p (PV.load1 rfl Sc2 rfl (Rd.blk rfl)) ?_)))
     refine RG.callF (vs := [_, _, _]) rfl rfl En56 rfl (within_s ?_)
     refine RG.bl rfl ?_
     refine RG.g rfl (fun hp => (PV.field rfl Fo42_4 rfl)) ?_
     refine RG.g rfl (fun hp => (PV.load1 rfl Sc2 (gt' hp) (Rd.blk rfl))) ?_
     refine RG.g rfl (fun hp => (PV.eql rfl (gt' hp) rfl)) ?_
     refine RG.p (PV.pickA rfl rfl (fun hq => gt' (geqT hq)) rfl) (RG.br rfl (RG.nil ?_))
     exact WP.ret ⟨_, _, rv rfl rfl, Cv.p, k⟩
def reach (r : Rule) : Int := bif validRule r && decide (r.kind <= 3) then r.value else -1
theorem reach_bd {r : Rule} (h : 0 <= reach r) : reach r <= 8 := by
 revert h; unfold reach
 cases hv : validRule r <;> cases hk : decide (r.kind <= 3) <;> simp
 have hk := odt hk
 simp only [validRule, Bool.and_eq_true] at hv
 have := hv.1.2
 rw [okVal, if_neg (by omega), if_neg (by omega)] at this
 simp [within] at this; omega
theorem reach_neg (r : Rule) (h : (!validRule r || decide (3 < r.kind)) = true) : reach r = -1 := by
 revert h; unfold reach
 cases hv : validRule r <;> simp
 intro h; rw [decide_eq_false (by omega)]; rfl
theorem reach_pos (r : Rule) (h : (!validRule r || decide (3 < r.kind)) = false) : reach r = r.value := by
 revert h; unfold reach
 cases hv : validRule r <;> simp
 intro h; rw [decide_eq_true h]; rfl
theorem reach_s {r : Rule} (k : R (vi (reach r)) G L) : CallT Tryz.prog 15 #[vrule r] G L R := by
 refine CallT.enter (args := _) Tryz.func15 rfl rfl (by kernel_rfl) rfl ?_
 refine WP.sr ?_
 refine RG.ot rfl (OT.box (cs := ruleT.enc r) rfl rfl rfl fun b1 => ?_)
 refine RG.mr rfl (RG.nil (WP.seq (WP.sr (RG.p (PV.loadW rfl Ag42 rfl rfl) ?_))))
 refine RG.callF (vs := [_]) rfl rfl En41 rfl (validRule_s ?_)
 refine RG.p (PV.not rfl rfl) (RG.bl rfl ?_)
 refine RG.g rfl (fun hp => (PV.field rfl Fo42_0 rfl)) ?_
 refine RG.g rfl (fun hp => (PV.load1 rfl Sc2 (gt' hp) (Rd.blk rfl))) ?_
 refine RG.g rfl (fun hp => (PV.gtr rfl (gt' hp) rfl)) ?_
 refine RG.p (PV.pickO rfl rfl rfl (fun hq => gt' (geqF hq))) (RG.nil ?_)
 refine WP.cond rfl (fun h1 => ?_) fun h1 => ?_
 ·rw [reach_neg r h1] at k
  refine WP.sr (RG.mr rfl (RG.nil ?_))
  exact WP.ret ⟨_, _, rv rfl rfl, Cv.p, k⟩
 ·rw [reach_pos r h1] at k
  refine WP.skip (WP.sr (RG.p (PV.field rfl Fo42_3 rfl) (RG.p (PV.load1 rfl Sc2 rfl (Rd.blk rfl)) (RG.mr rfl (RG.nil ?_)))))
  exact WP.ret ⟨_, _, rv rfl rfl, Cv.p, k⟩
theorem reach_i {r : Rule} (k : R (vi (reach r)) G L) : CallT Tryz.prog 31 #[vrule r] G L R := by
 refine CallT.enter (args := _) Tryz.func31 rfl rfl (by kernel_rfl) rfl ?_
 refine WP.sr ?_
 refine RG.ot rfl (OT.box (cs := ruleT.enc r) rfl rfl rfl fun b1 => ?_)
 refine RG.mr rfl (RG.nil (WP.seq (WP.sr (RG.p (PV.loadW rfl Ag42 rfl rfl) ?_))))
 refine RG.callF (vs := [_]) rfl rfl En47 rfl (validRule_i ?_)
 refine RG.p (PV.not rfl rfl) (RG.bl rfl ?_)
 refine RG.g rfl (fun hp => (PV.field rfl Fo42_0 rfl)) ?_
 refine RG.g rfl (fun hp => (PV.load1 rfl Sc2 (gt' hp) (Rd.blk rfl))) ?_
 refine RG.g rfl (fun hp => (PV.gtr rfl (gt' hp) rfl)) ?_
 refine RG.p (PV.pickO rfl rfl rfl (fun hq => gt' (geqF hq))) (RG.nil ?_)
 refine WP.cond rfl (fun h1 => ?_) fun h1 => ?_
 ·rw [reach_neg r h1] at k
  refine WP.sr (RG.mr rfl (RG.nil ?_))
  exact WP.ret ⟨_, _, rv rfl rfl, Cv.p, k⟩
 ·rw [reach_pos r h1] at k
  refine WP.skip (WP.sr (RG.p (PV.field rfl Fo42_3 rfl) (RG.p (PV.load1 rfl Sc2 rfl (Rd.blk rfl)) (RG.mr rfl (RG.nil ?_)))))
  exact WP.ret ⟨_, _, rv rfl rfl, Cv.p, k⟩
theorem grown_s {v : Value} {xs : List Rect} {q : Int} (h1 : Rs G L rectT v xs) (hr : ∀ r ∈ xs, -40 <= r.x0 ∧ r.x0 < r.x1 ∧ r.x1 <= 40 ∧ -40 <= r.y0 ∧ r.y0 < r.y1 ∧ r.y1 <= 40) (hq : 0 <= q ∧ q <= 100) (k : ∀ b, R (.pointer (some ⟨b, 0, none⟩)) G (grd b (growB (bits xs) q) :: L)) : CallT Tryz.prog 237 #[v, vi q] G L R := by
 refine CallT.bd h1 fun hb => ?_
 refine CallT.enter (args := _) Tryz.func237 rfl rfl (by kernel_rfl) rfl ?_
 refine WP.sr (RG.p (PV.asg rfl rfl) (RG.nil (WP.sr (RG.p (PV.build0 rfl Tryz.underlying125 ⟨80, by kernel_rfl⟩ (zeroB_spec (n := 6400) (by kernel_rfl))) ?_))))
 refine RG.ot rfl (OT.boxG rfl rfl fun b9 => ?_)
 refine RG.p (PV.mvP (.inr rfl) rfl) (RG.nil (WP.seq (WP.sr (RG.p (PV.move (v := v) rfl rfl) (RG.p (PV.len (v := v) rfl Tryz.underlying50 rfl (SlF.r h1)) (RG.ml rfl (RG.nil (WP.block ?_))))))))
 refine WP.loop2 [1, 5, 10, 11] (fun (i : Nat) (cs : List Bool) => i <= xs.length ∧ cs.length = 6400 ∧ ∀ y x, y < 80 -> x < 80 -> gb cs y x = (xs.take i).any fun r => inR (enl q r) y x) (fun (i : Nat) (cs : List Bool) => [(12, vi i)]) (fun (i : Nat) (cs : List Bool) => grd b9 cs :: L) (fun (i : Nat) (cs : List Bool) => xs.length - i) 0 (List.replicate 6400 false) ⟨by omega, by simp, fun y x _ _ => by rw [gb_rep]; simp⟩ ⟨rfl, trivial⟩ Cv.p ?_
 rintro i cs τ ⟨hi, hl, hc⟩
 refine WP.sr (RG.p (PV.lss rfl rfl rfl) (RG.nil (WP.seq ?_)))
 refine WP.cond rfl (fun h2 => ?_) fun h2 => ?_
 ·have h2 := odt h2
  have h3 := hr (gd xs i) (by rw [gd_eq (by omega)]; exact List.getElem_mem _)
  refine WP.skip (WP.seq (WP.block (WP.sr (RG.p (PV.idxS (v := v) rfl Is50 rfl (SlF.r h1) rfl rfl (by omega)) (RG.p (PV.loadE rfl Ag101 rfl rfl (El.r h1 (getG (by omega)))) ?_)))))
  refine RG.ot rfl (OT.alloc rfl Zr101 fun b7 => ?_)
  refine RG.ot rfl (OT.storeW (vs := [vi _, vi _, vi _, vi _]) rfl Sz101 rfl rfl (Cl.c rfl) rfl rfl (OneC.c rfl) ?_)
  refine RG.nil (WP.region (RG.p (PV.mvP (.inl rfl) rfl) (RG.p (PV.field rfl Fo101_0 rfl) (RG.p (PV.load1 rfl Sc2 rfl (Rd.blk rfl)) (RG.ml rfl (RG.p (PV.sub rfl rfl rfl (by omega)) (RG.p (PV.field rfl Fo101_1 rfl) (RG.p (PV.load1 rfl Sc2 rfl (Rd.blk rfl)) (RG.ml rfl (RG.p (PV.sub rfl rfl rfl (by omega)) (RG.p (PV.field rfl Fo101_2 rfl) (RG.p (PV.load1 rfl Sc2 rfl (Rd.blk rfl)) (RG.ml rfl ?_)))))))))))))
  refine RG.p (PV.add rfl rfl rfl (by omega)) (RG.p (PV.field rfl Fo101_3 rfl) (RG.p (PV.load1 rfl Sc2 rfl (Rd.blk rfl)) (RG.ml rfl (RG.p (PV.add rfl rfl rfl (by omega)) (RG.p (PV.build (vs := [(0, [vi _]), (1, [vi _]), (2, [vi _]), (3, [vi _])]) (out := [_, _, _, _]) rfl Zr101 Pl101 ⟨rfl, (Cl.c rfl), ⟨rfl, (Cl.c rfl), ⟨rfl, (Cl.c rfl), ⟨rfl, (Cl.c rfl), trivial⟩⟩⟩⟩ rfl) ?_)))))
  refine RG.callF (vs := [(.pointer (some ⟨b9, 0, none⟩)), _]) rfl rfl En68 rfl (CallT.exB (put_s (r := ⟨_, _, _, _⟩) (by assumption) (fun bs' hb' hg' => ?_)))
  refine RG.nil (WP.region (RG.p (PV.add rfl rfl rfl (by omega)) (RG.ml rfl (RG.nil ?_))))
  refine ⟨rfl, i + 1, bs', ⟨by omega, hb', fun y x h5 h6 => ?_⟩, ⟨rfl, trivial⟩, ⟨rfl, rfl, rfl, rfl, trivial⟩, Cv.p, by omega⟩
  rw [hg' y x h5 h6, hc y x h5 h6, List.take_add_one, getG (by omega), List.any_append]; simp [enl]
 ·have h2 := odf h2
  have e : cs = growB (bits xs) q := gb_ext hl (growB_len _ _) fun y x h5 h6 => by
   rw [hc y x h5 h6, List.take_of_length_le (by omega)]; exact grow_enl hq.1 hr h5 h6
  subst e
  refine WP.exit (WP.sr (RG.p (PV.mvP (.inl rfl) rfl) (RG.p (PV.mvP (.inr rfl) rfl) (RG.nil ?_))))
  exact WP.ret ⟨_, _, rv rfl rfl, Cv.p, k b9⟩
theorem grow_s {v : Value} {xs : List Rect} {q : Int} (h1 : Rs G L rectT v xs) (hr : ∀ r ∈ xs, -40 <= r.x0 ∧ r.x0 < r.x1 ∧ r.x1 <= 40 ∧ -40 <= r.y0 ∧ r.y0 < r.y1 ∧ r.y1 <= 40) (hq : 0 <= q ∧ q <= 100) (k : ∀ v', R v' G (osl 101 rectT v' (canon (growB (bits xs) q)) :: L)) : CallT Tryz.prog 196 #[v, vi q] G L R := by
 refine CallT.enter (args := _) Tryz.func196 rfl rfl (by kernel_rfl) rfl ?_
 refine WP.sr (RG.p (PV.asg rfl rfl) (RG.nil (WP.sr (RG.p (PV.move (v := v) rfl rfl) (RG.ml rfl ?_)))))
 refine RG.callF (vs := [v, _]) rfl rfl En237 rfl (grown_s (Rs.up h1) hr hq (fun b7 => ?_))
 refine RG.callF (vs := [_]) rfl rfl En69 rfl (CallT.exB (region_s (growB_len _ _) (fun v8 => ?_)))
 refine RG.p (PV.asg (v := v8) rfl rfl) (RG.nil ?_)
 exact WP.ret ⟨_, _, rv rfl rfl, Cv.p, k v8⟩
theorem Eq42 : EqT Tryz.prog 42 ruleT := ⟨by kernel_rfl, fun a b w => by
 rw [eqT_run 9999 _ _ w Tryz.underlying42 (by kernel_rfl)]
 obtain ⟨a0, a1, a2, a3, a4⟩ := a; obtain ⟨b0, b1, b2, b3, b4⟩ := b
 simp only [ruleT]
 simp [Op.eqFields, part, isAgg, run_underlying Tryz.underlying2, run_equalIn_int _ _ _ _ _ _ _ Tryz.underlying2]
 by_cases e0 : a0 = b0 <;> by_cases e1 : a1 = b1 <;> by_cases e2 : a2 = b2 <;> by_cases e3 : a3 = b3 <;> by_cases e4 : a4 = b4 <;> simp_all⟩
def hasR (rs : List Rule) (q : Rule) : Bool := rs.any fun r => decide (q = r)
def deckAt (rs : List Rule) (i : Nat) : Bool := validRule (gd rs i) && !hasR (rs.take i) (gd rs i)
def deckOk (rs : List Rule) : Bool := decide (rs.length <= 12) && decide (∀ i, i < rs.length -> deckAt rs i = true)
theorem deck_false {rs : List Rule} {i : Nat} (h : i < rs.length) (e : deckAt rs i = false) : deckOk rs = false := by
 simp only [deckOk, Bool.and_eq_false_iff, decide_eq_false_iff_not]
 exact .inr fun hh => by rw [hh i h] at e; cases e
theorem deck_all {rs : List Rule} (h : ∀ i, i < rs.length -> deckAt rs i = true) : deckOk rs = decide ((rs.length : Int) <= 12) := by
 simp only [deckOk, decide_eq_true h, Bool.and_true]; rw [decide_eq_decide]; omega
theorem deck_rule {rs : List Rule} (h : deckOk rs = true) {i : Nat} (hi : i < rs.length) : validRule (gd rs i) = true := by
 simp only [deckOk, Bool.and_eq_true, decide_eq_true_eq] at h
 have := h.2 i hi; simp only [deckAt, Bool.and_eq_true] at this; exact this.1
theorem deck_len {rs : List Rule} (h : deckOk rs = true) : rs.length <= 12 := by
 simp only [deckOk, Bool.and_eq_true, decide_eq_true_eq] at h; exact h.1
theorem indexRule_s {v : Value} {rs : List Rule} {q : Rule} (h1 : Rs G L ruleT v rs) (k : R (vi (idxI (fun r => decide (q = r)) rs)) G L) : CallT Tryz.prog 119 #[v, vrule q] G L R := by
 refine CallT.bd h1 fun hb => ?_
 refine CallT.enter (args := _) Tryz.func119 rfl rfl (by kernel_rfl) rfl ?_
 refine WP.sr ?_
 refine RG.ot rfl (OT.box (cs := ruleT.enc q) rfl rfl rfl fun b3 => ?_)
 refine RG.mr rfl (RG.nil (WP.seq (WP.sr (RG.p (PV.move (v := v) rfl rfl) (RG.p (PV.len (v := v) rfl Tryz.underlying27 rfl (SlF.r h1)) (RG.ml rfl (RG.nil (WP.block ?_))))))))
 refine WP.loop1 [0, 3, 7] (fun i => i <= rs.length ∧ ∀ j, j < i -> decide (q = gd rs j) = false) (fun i => [(8, vi i)]) (fun i => blk b3 42 (ruleT.enc q) :: L) (fun i => rs.length - i) 0 ⟨by omega, fun j h => by omega⟩ ⟨rfl, trivial⟩ Cv.p ?_
 rintro i τ ⟨hi, hj⟩
 refine WP.sr (RG.p (PV.lss rfl rfl rfl) (RG.nil (WP.seq ?_)))
 refine WP.cond rfl (fun h2 => ?_) fun h2 => ?_
 ·have h2 := odt h2
  refine WP.skip (WP.seq (WP.block (WP.sr (RG.ml rfl (RG.mr rfl (RG.nil (WP.seq ?_)))))))
  refine WP.regionQ (by kernel_rfl) (by kernel_rfl) ?_
  refine RQ.pv rfl (PV.loadW rfl Ag42 rfl rfl) (RQ.pv rfl (PV.move (v := v) rfl rfl) (RQ.pv rfl (PV.mvI (.inl rfl) rfl) (RQ.pv rfl (PV.idxS (v := v) rfl Is27 rfl (SlF.r h1) rfl rfl (by omega)) (RQ.pv rfl (PV.loadE rfl Ag42 rfl rfl (El.r h1 (getG (by omega)))) (RQ.pv rfl (PV.eqlT rfl Eq42 rfl rfl) (RQ.nil ?_))))))
  refine WP.cond rfl (fun h3 => ?_) fun h3 => ?_
  ·rw [idxI_at (by omega) h3 hj] at k
   refine WP.sr (RG.ml rfl (RG.mr rfl (RG.nil ?_)))
   exact WP.ret ⟨_, _, rv rfl rfl, Cv.p, k⟩
  ·have hj' : ∀ j, j < i + 1 -> decide (q = gd rs j) = false := fun j h => by
    by_cases c : j = i
    ·rw [c]; exact h3
    ·exact hj j (by omega)
   refine WP.skip (WP.region (RG.p (PV.add rfl rfl rfl (by omega)) (RG.ml rfl (RG.nil ?_))))
   exact ⟨rfl, i + 1, ⟨by omega, hj'⟩, ⟨rfl, trivial⟩, ⟨rfl, rfl, rfl, trivial⟩, Cv.p, by omega⟩
 ·have h2 := odf h2
  rw [idxI_none (fun j h => hj j (by omega))] at k
  refine WP.exit (WP.sr (RG.mr rfl (RG.nil ?_)))
  exact WP.ret ⟨_, _, rv rfl rfl, Cv.p, k⟩
theorem containsRule_s {v : Value} {rs : List Rule} {q : Rule} (h1 : Rs G L ruleT v rs) (k : R (.bool (hasR rs q)) G L) : CallT Tryz.prog 73 #[v, vrule q] G L R := by
 rw [hasR, <- idxI_any] at k
 refine CallT.enter (args := _) Tryz.func73 rfl rfl (by kernel_rfl) rfl ?_
 refine WP.sr ?_
 refine RG.ot rfl (OT.box (cs := ruleT.enc q) rfl rfl rfl fun b3 => ?_)
 refine RG.br rfl (RG.nil (WP.sr (RG.p (PV.move (v := v) rfl rfl) (RG.p (PV.loadW rfl Ag42 rfl rfl) ?_))))
 refine RG.callF (vs := [v, _]) rfl rfl En119 rfl (indexRule_s (Rs.up h1) ?_)
 refine RG.p (PV.geq rfl rfl rfl) (RG.br rfl (RG.nil ?_))
 exact WP.ret ⟨_, _, rv rfl rfl, Cv.p, k⟩
theorem deck_i {d : Deck} (h1 : Rs G L ruleT d.rules.v d.rules.xs) (k : R (.bool (deckOk d.rules.xs)) G L) : CallT Tryz.prog 35 #[vT deckT d] G L R := by
 refine CallT.bd h1 fun hb => ?_
 refine CallT.enter (args := _) Tryz.func35 rfl rfl (by kernel_rfl) rfl ?_
 refine WP.sr ?_
 refine RG.ot rfl (OT.box (cs := deckT.enc d) rfl rfl rfl fun b1 => ?_)
 refine RG.br rfl (RG.nil (WP.seq (WP.sr (RG.p (PV.field rfl Fo29_0 rfl) (RG.p (PV.load1 rfl Sc27 rfl (Rd.blk rfl)) (RG.p (PV.len rfl Tryz.underlying27 rfl (SlF.r h1)) (RG.ml rfl (RG.nil (WP.block ?_)))))))))
 refine WP.loop1 [1, 6, 7] (fun i => i <= d.rules.xs.length ∧ ∀ j, j < i -> deckAt d.rules.xs j = true) (fun i => [(8, vi i)]) (fun i => blk b1 29 (deckT.enc d) :: L) (fun i => d.rules.xs.length - i) 0 ⟨by omega, fun j h => by omega⟩ ⟨rfl, trivial⟩ Cv.p ?_
 rintro i τ ⟨hi, hj⟩
 refine WP.sr (RG.p (PV.lss rfl rfl rfl) (RG.nil (WP.seq ?_)))
 refine WP.cond rfl (fun h2 => ?_) fun h2 => ?_
 ·have h2 := odt h2
  have h3 : i < d.rules.xs.length := by omega
  refine WP.skip (WP.seq (WP.block (WP.sr (RG.ml rfl (RG.p (PV.idxS rfl Is27 rfl (SlF.r h1) rfl rfl (by omega)) (RG.p (PV.loadE rfl Ag42 rfl rfl (El.r h1 (getG (by omega)))) ?_))))))
  refine RG.ot rfl (OT.alloc rfl Zr42 fun b4 => ?_)
  refine RG.mr rfl ?_
  refine RG.ot rfl (OT.storeW (vs := [vi _, vi _, vi _, vi _, vi _]) rfl Sz42 rfl rfl (Cl.c rfl) rfl rfl (OneC.c rfl) ?_)
  refine RG.nil (WP.seq ?_)
  refine WP.regionQ (by kernel_rfl) (by kernel_rfl) ?_
  refine RQ.pv rfl (PV.loadW rfl Ag42 rfl rfl) ?_
  refine RQ.callF (vs := [_]) rfl rfl En47 rfl (validRule_i ⟨rfl, rfl, rfl⟩) ?_
  refine RQ.pv rfl (PV.not rfl rfl) (RQ.pv rfl (PV.mvB (.inl rfl) rfl) (RQ.gs rfl rfl rfl (fun hp => (PV.field rfl Fo29_0 rfl)) (RQ.gs rfl rfl rfl (fun hp => (PV.load1 rfl Sc27 (gt' hp) (Rd.blk rfl))) (RQ.gs rfl rfl rfl (fun hp => (PV.mvI (.inl rfl) rfl)) (RQ.gs rfl rfl rfl (fun hp => (PV.slc rfl Is27 (gt' hp) (SlF.r h1) optAt.n (optAt.s (gt' hp) rfl) (by first | omega | (simp at hp; omega)) (by first | omega | (simp at hp; omega)))) (RQ.gs rfl rfl rfl (fun hp => (PV.loadW rfl Ag42 rfl rfl)) ?_))))))
  refine RQ.gsC rfl rfl rfl rfl En73 (fun hp => ⟨_, (acons (gt' hp) (acons (gt' hp) anil)), containsRule_s (rs := d.rules.xs.take i) (by have := Rs.slv h1 (lo := 0) (hi := i) (by omega) (by omega); rw [List.drop_zero] at this; exact this.up) ⟨rfl, rfl, rfl⟩⟩) ?_
  refine RQ.pv rfl (PV.pickO rfl rfl rfl (fun hq => gt' (geqF hq))) (RQ.nil ?_)
  refine WP.cond rfl (fun h4 => ?_) fun h4 => ?_
  ·have e : deckAt d.rules.xs i = false := by
    revert h4; unfold deckAt
    cases validRule (gd d.rules.xs i) <;> cases hasR (d.rules.xs.take i) (gd d.rules.xs i) <;> simp
   rw [deck_false h3 e] at k
   refine WP.sr (RG.br rfl (RG.nil ?_))
   exact WP.ret ⟨_, _, rv rfl rfl, Cv.p, k⟩
  ·have e : deckAt d.rules.xs i = true := by
    revert h4; unfold deckAt
    cases validRule (gd d.rules.xs i) <;> cases hasR (d.rules.xs.take i) (gd d.rules.xs i) <;> simp
   have hj' : ∀ j, j < i + 1 -> deckAt d.rules.xs j = true := fun j h => by
    by_cases c : j = i
    ·rw [c]; exact e
    ·exact hj j (by omega)
   refine WP.skip (WP.region (RG.p (PV.add rfl rfl rfl (by omega)) (RG.ml rfl (RG.nil ?_))))
   exact ⟨rfl, i + 1, ⟨by omega, hj'⟩, ⟨rfl, trivial⟩, ⟨rfl, rfl, rfl, trivial⟩, Cv.p, by omega⟩
 ·have h2 := odf h2
  rw [deck_all (fun i h => hj i (by omega))] at k
  refine WP.exit (WP.sr (RG.p (PV.field rfl Fo29_0 rfl) (RG.p (PV.load1 rfl Sc27 rfl (Rd.blk rfl)) (RG.p (PV.len rfl Tryz.underlying27 rfl (SlF.r h1)) (RG.p (PV.leq rfl rfl rfl) (RG.br rfl (RG.nil ?_)))))))
  exact WP.ret ⟨_, _, rv rfl rfl, Cv.p, k⟩
theorem l16Has_s {v : Value} {rs : List Rule} {q : Rule} (h1 : Rs G L ruleT v rs) (k : R (.bool (hasR rs q)) G L) : CallT Tryz.prog 60 #[v, vrule q] G L R := by
 refine CallT.bd h1 fun hb => ?_
 refine CallT.enter (args := _) Tryz.func60 rfl rfl (by kernel_rfl) rfl ?_
 refine WP.sr ?_
 refine RG.ot rfl (OT.box (cs := ruleT.enc q) rfl rfl rfl fun b3 => ?_)
 refine RG.br rfl (RG.nil (WP.seq (WP.sr (RG.mr rfl (RG.nil (WP.block ?_))))))
 refine WP.loop1 [0, 3] (fun i => i <= rs.length ∧ ∀ j, j < i -> ¬ q = gd rs j) (fun i => [(5, vi i)]) (fun i => blk b3 42 (ruleT.enc q) :: L) (fun i => rs.length - i) 0 ⟨by omega, fun j h => by omega⟩ ⟨rfl, trivial⟩ Cv.p ?_
 rintro i τ ⟨hi, hj⟩
 refine WP.seq (WP.sr (RG.ml rfl (RG.p (PV.move (v := v) rfl rfl) (RG.p (PV.len (v := v) rfl Tryz.underlying27 rfl (SlF.r h1)) (RG.p (PV.lss rfl rfl rfl) (RG.nil ?_))))))
 refine WP.cond rfl (fun h2 => ?_) fun h2 => ?_
 ·have h2 := odt h2
  refine WP.skip (WP.seq (WP.block (WP.seq ?_)))
  refine WP.regionQ (by kernel_rfl) (by kernel_rfl) ?_
  refine RQ.pv rfl (PV.move (v := v) rfl rfl) (RQ.pv rfl (PV.mvI (.inl rfl) rfl) (RQ.pv rfl (PV.idxS (v := v) rfl Is27 rfl (SlF.r h1) rfl rfl (by omega)) (RQ.pv rfl (PV.loadE rfl Ag42 rfl rfl (El.r h1 (getG (by omega)))) (RQ.pv rfl (PV.loadW rfl Ag42 rfl rfl) (RQ.pv rfl (PV.eqlT rfl Eq42 rfl rfl) (RQ.nil ?_))))))
  refine WP.cond rfl (fun h3 => ?_) fun h3 => ?_
  ·have e : hasR rs q = true := List.any_eq_true.2 ⟨gd rs i, by rw [gd_eq (by omega)]; exact List.getElem_mem _, by rw [decide_eq_true_iff]; exact (odt h3).symm⟩
   rw [e] at k
   refine WP.sr (RG.br rfl (RG.nil ?_))
   exact WP.ret ⟨_, _, rv rfl rfl, Cv.p, k⟩
  ·have hj' : ∀ j, j < i + 1 -> ¬ q = gd rs j := fun j h => by
    by_cases c : j = i
    ·rw [c]; exact fun e => (odf h3) e.symm
    ·exact hj j (by omega)
   refine WP.skip (WP.region (RG.ml rfl (RG.p (PV.add rfl rfl rfl (by omega)) (RG.mr rfl (RG.nil ?_)))))
   exact ⟨rfl, i + 1, ⟨by omega, hj'⟩, ⟨rfl, trivial⟩, ⟨rfl, rfl, trivial⟩, Cv.p, by omega⟩
 ·have h2 := odf h2
  have e : hasR rs q = false := by
   rw [hasR, List.any_eq_false]
   intro r hr
   obtain ⟨j, hj2, rfl⟩ := List.getElem_of_mem hr
   have := hj j (by omega)
   rw [gd_eq hj2] at this
   simpa using this
  rw [e] at k
  refine WP.exit (WP.sr (RG.br rfl (RG.nil ?_)))
  exact WP.ret ⟨_, _, rv rfl rfl, Cv.p, k⟩
theorem deck_r {d : Deck} (h1 : Rs G L ruleT d.rules.v d.rules.xs) (k : R (.bool (deckOk d.rules.xs)) G L) : CallT Tryz.prog 63 #[vT deckT d] G L R := by
 refine CallT.bd h1 fun hb => ?_
 refine CallT.enter (args := _) Tryz.func63 rfl rfl (by kernel_rfl) rfl ?_
 refine WP.sr ?_
 refine RG.ot rfl (OT.box (cs := deckT.enc d) rfl rfl rfl fun b1 => ?_)
 refine RG.br rfl (RG.nil (WP.seq (WP.sr (RG.p (PV.field rfl Fo29_0 rfl) (RG.p (PV.load1 rfl Sc27 rfl (Rd.blk rfl)) (RG.p (PV.len rfl Tryz.underlying27 rfl (SlF.r h1)) (RG.p (PV.gtr rfl rfl rfl) (RG.nil ?_))))))))
 refine WP.cond rfl (fun h0 => ?_) fun h0 => ?_
 ·have h0 := odt h0
  have e : deckOk d.rules.xs = false := by
   have : ¬ d.rules.xs.length <= 12 := by omega
   simp [deckOk, this]
  rw [e] at k
  refine WP.sr (RG.br rfl (RG.nil ?_))
  exact WP.ret ⟨_, _, rv rfl rfl, Cv.p, k⟩
 ·have h0 := odf h0
  refine WP.skip (WP.seq (WP.sr (RG.mr rfl (RG.nil (WP.block ?_)))))
  refine WP.loop1 [1] (fun i => i <= d.rules.xs.length ∧ ∀ j, j < i -> deckAt d.rules.xs j = true) (fun i => [(3, vi i)]) (fun i => blk b1 29 (deckT.enc d) :: L) (fun i => d.rules.xs.length - i) 0 ⟨by omega, fun j h => by omega⟩ ⟨rfl, trivial⟩ Cv.p ?_
  rintro i τ ⟨hi, hj⟩
  refine WP.seq (WP.sr (RG.ml rfl (RG.p (PV.field rfl Fo29_0 rfl) (RG.p (PV.load1 rfl Sc27 rfl (Rd.blk rfl)) (RG.p (PV.len rfl Tryz.underlying27 rfl (SlF.r h1)) (RG.p (PV.lss rfl rfl rfl) (RG.nil ?_)))))))
  refine WP.cond rfl (fun h2 => ?_) fun h2 => ?_
  ·have h2 := odt h2
   have h3 : i < d.rules.xs.length := by omega
   refine WP.skip (WP.seq (WP.block (WP.seq ?_)))
   refine WP.regionQ (by kernel_rfl) (by kernel_rfl) ?_
   refine RQ.pv rfl (PV.field rfl Fo29_0 rfl) (RQ.pv rfl (PV.load1 rfl Sc27 rfl (Rd.blk rfl)) (RQ.pv rfl (PV.mvI (.inl rfl) rfl) (RQ.pv rfl (PV.idxS rfl Is27 rfl (SlF.r h1) rfl rfl (by omega)) (RQ.pv rfl (PV.loadE rfl Ag42 rfl rfl (El.r h1 (getG (by omega)))) ?_))))
   refine RQ.callF (vs := [_]) rfl rfl En41 rfl (validRule_s ⟨rfl, rfl, rfl⟩) ?_
   refine RQ.pv rfl (PV.not rfl rfl) (RQ.pv rfl (PV.mvB (.inl rfl) rfl) (RQ.gs rfl rfl rfl (fun hp => (PV.field rfl Fo29_0 rfl)) (RQ.gs rfl rfl rfl (fun hp => (PV.load1 rfl Sc27 (gt' hp) (Rd.blk rfl))) (RQ.gs rfl rfl rfl (fun hp => (PV.mvI (.inl rfl) rfl)) (RQ.gs rfl rfl rfl (fun hp => (PV.slc rfl Is27 (gt' hp) (SlF.r h1) optAt.n (optAt.s (gt' hp) rfl) (by first | omega | (simp at hp; omega)) (by first | omega | (simp at hp; omega)))) (RQ.gs rfl rfl rfl (fun hp => (PV.field rfl Fo29_0 rfl)) (RQ.gs rfl rfl rfl (fun hp => (PV.load1 rfl Sc27 (gt' hp) (Rd.blk rfl))) (RQ.gs rfl rfl rfl (fun hp => (PV.mvI (.inl rfl) rfl)) (RQ.gs rfl rfl rfl (fun hp => (PV.idxS rfl Is27 (gt' hp) (SlF.r h1) (gt' hp) rfl (by first | omega | (simp at hp; omega)))) (RQ.gs rfl rfl rfl (fun hp => (PV.loadE rfl Ag42 (gt' hp) rfl (El.r h1 (getG (by first | omega | (simp at hp; omega)))))) ?_))))))))))
   refine RQ.gsC rfl rfl rfl rfl En60 (fun hp => ⟨_, (acons (gt' hp) (acons (gt' hp) anil)), l16Has_s (rs := d.rules.xs.take i) (by have := Rs.slv h1 (lo := 0) (hi := i) (by omega) (by omega); rw [List.drop_zero] at this; exact this.up) ⟨rfl, rfl, rfl⟩⟩) ?_
   refine RQ.pv rfl (PV.pickO rfl rfl rfl (fun hq => gt' (geqF hq))) (RQ.nil ?_)
   refine WP.cond rfl (fun h4 => ?_) fun h4 => ?_
   ·have e : deckAt d.rules.xs i = false := by
     revert h4; unfold deckAt
     cases validRule (gd d.rules.xs i) <;> cases hasR (d.rules.xs.take i) (gd d.rules.xs i) <;> simp
    rw [deck_false h3 e] at k
    refine WP.sr (RG.br rfl (RG.nil ?_))
    exact WP.ret ⟨_, _, rv rfl rfl, Cv.p, k⟩
   ·have e : deckAt d.rules.xs i = true := by
     revert h4; unfold deckAt
     cases validRule (gd d.rules.xs i) <;> cases hasR (d.rules.xs.take i) (gd d.rules.xs i) <;> simp
    have hj' : ∀ j, j < i + 1 -> deckAt d.rules.xs j = true := fun j h => by
     by_cases c : j = i
     ·rw [c]; exact e
     ·exact hj j (by omega)
    refine WP.skip (WP.region (RG.ml rfl (RG.p (PV.add rfl rfl rfl (by omega)) (RG.mr rfl (RG.nil ?_)))))
    exact ⟨rfl, i + 1, ⟨by omega, hj'⟩, ⟨rfl, trivial⟩, ⟨rfl, trivial⟩, Cv.p, by omega⟩
  ·have h2 := odf h2
   have e : deckOk d.rules.xs = true := by
    rw [deck_all (fun i h => hj i (by omega)), decide_eq_true_iff]; omega
   rw [e] at k
   refine WP.exit (WP.sr (RG.br rfl (RG.nil ?_)))
   exact WP.ret ⟨_, _, rv rfl rfl, Cv.p, k⟩
end Go.Proofs.YtogocmlhnjiaaaaGreat
