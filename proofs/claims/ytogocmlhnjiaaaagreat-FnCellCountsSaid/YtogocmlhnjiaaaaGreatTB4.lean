/-
  Contracts of functions and plain facts that the last text of this folder uses, part 4.
-/
import Derived.Test.YtogocmlhnjiaaaaGreatTB3
set_option linter.unusedVariables false
set_option linter.unusedSimpArgs false
namespace Go.Proofs.YtogocmlhnjiaaaaGreat
open Go
set_option maxRecDepth 20000
set_option maxHeartbeats 2000000
variable {G : Gh} {L : List Ch} {R : Value -> Gh -> List Ch -> Prop}
def ttT : List ByteArray := [ByteArray.mk #[], ByteArray.mk #[65], ByteArray.mk #[97, 98, 99, 100, 101, 102, 103, 104, 105], ByteArray.mk #[97, 32, 98]]
def dBx9 (bs : List UInt8) (p : Pl) : Rect × Pl :=
  match nx bs p 90 with
  | (a, p1) => match nx bs p1 90 with
  | (b, p2) => match nx bs p2 90 with
  | (c, p3) => match nx bs p3 90 with
  | (d, p4) => (⟨a - 45, b - 45, c - 45, d - 45⟩, p4)
def dOdd (bs : List UInt8) (cs : List ECell) (k : Int) (c : ECell) (p : Pl) : ECell × Pl :=
  match nx bs p 16 with
  | (a, p1) =>
    if a = 0 then (⟨(gd cs 0).name, c.shapes, c.labels, c.insts⟩, p1)
    else if a = 1 then (match nx bs p1 4 with | (t, p2) => (⟨gd ttT t.toNat, c.shapes, c.labels, c.insts⟩, p2))
    else if a = 2 then (match nx bs p1 12 with | (l, p2) => match dBx9 bs p2 with | (r, p3) => (⟨c.name, c.shapes ++ [⟨l - 2, r⟩], c.labels, c.insts⟩, p3))
    else if a = 3 then (match dIns bs (k + 1) p1 with | (i, p2) => match nx bs p2 6 with | (w, p3) => match nx bs p3 200 with | (y, p4) => (⟨c.name, c.shapes, c.labels, c.insts ++ [⟨i.cell, i.place, i.cols, w, i.sx, y - 100⟩]⟩, p4))
    else if a = 4 then (match nx bs p1 10 with | (l, p2) => match nx bs p2 90 with | (x, p3) => match nx bs p3 90 with | (y, p4) => match dName bs p4 with | (n, p5) => (⟨c.name, c.shapes, c.labels ++ [⟨l - 1, ⟨x - 45, y - 45⟩, n⟩], c.insts⟩, p5))
    else if a = 5 then (match dShps bs 25 c.shapes p1 with | (ss, p2) => (⟨c.name, ss, c.labels, c.insts⟩, p2))
    else (c, p1)
def dAny (bs : List UInt8) (p : Pl) : List ECell × Pl :=
  match dLibF bs p with
  | (cs, p1) => match nx bs p1 cs.length with
  | (k, p2) => match dOdd bs cs k (gd cs k.toNat) p2 with
  | (c, p3) => (cs.set k.toNat c, p3)
def dIdx (bs : List UInt8) (cs : List ECell) (p : Pl) : Int × Pl :=
  match nx bs p 12 with
  | (a, p1) => if a = 0 then (match nx bs p1 3 with | (k, p2) => (gd [(-1 : Int), (cs.length : Int), 7] k.toNat, p2)) else nx bs p1 cs.length
def dTop (bs : List UInt8) (p : Pl) : (List ECell × Int) × Pl :=
  match nx bs p 16 with
  | (a, p1) =>
    if a = 0 then (match dAny bs p1 with | (cs, p2) => match dIdx bs cs p2 with | (n, p3) => ((cs, n), p3))
    else (match dLibF bs p1 with | (cs, p2) => match nx bs p2 6 with | (c, p3) => if c = 0 then (match dIdx bs cs p3 with | (n, p4) => ((cs, n), p4)) else ((cs, (cs.length : Int) - 1), p3))
def dSh1 (bs : List UInt8) (l : Int) (p : Pl) : Shape × Pl :=
  match nx bs p 2 with
  | (a, p1) => match dBox bs p1 with
  | (r, p2) => (⟨(l + a) % 8, r⟩, p2)
def dSh1s (bs : List UInt8) (k : Int) : Nat -> List Shape -> Pl -> List Shape × Pl
  | 0, l, p => (l, p)
  | n + 1, l, p => dSh1s bs k n (l ++ [(dSh1 bs k p).1]) (dSh1 bs k p).2
def dIn1 (bs : List UInt8) (p : Pl) : Inst × Pl :=
  match nx bs p 8 with
  | (o, p1) => match nx bs p1 50 with
  | (x, p2) => match nx bs p2 50 with
  | (y, p3) => match nx bs p3 3 with
  | (a, p4) => if a = 0 then (match nx bs p4 31 with | (d, p5) => (⟨0, ⟨o, x - 25, y - 25⟩, 2, 1, d - 15, 0⟩, p5)) else (⟨0, ⟨o, x - 25, y - 25⟩, 1, 1, 0, 0⟩, p4)
def dIn1s (bs : List UInt8) : Nat -> List Inst -> Pl -> List Inst × Pl
  | 0, l, p => (l, p)
  | n + 1, l, p => dIn1s bs n (l ++ [(dIn1 bs p).1]) (dIn1 bs p).2
def dTop2 (bs : List UInt8) (p : Pl) : (List ECell × Int) × Pl :=
  match nx bs p 8 with
  | (l, p1) => match nx bs p1 3 with
  | (a, p2) => match dSh1s bs l (a + 1).toNat [] p2 with
  | (s1, p3) => match nx bs p3 3 with
  | (b, p4) => match dSh1s bs l b.toNat [] p4 with
  | (s2, p5) => match nx bs p5 3 with
  | (c, p6) => match dIn1s bs (c + 1).toNat [] p6 with
  | (is, p7) => match nx bs p7 9 with
  | (d, p8) => if d = 0 then dTop bs p8 else (([⟨txt [97], s1, [], []⟩, ⟨txt [98], s2, [], is⟩], 1), p8)
def lay0 (cs : List ECell) : Int := match cs with | ⟨_, s :: _, _, _⟩ :: _ => s.layer | _ => 0
def dRu (bs : List UInt8) (cs : List ECell) (p : Pl) : Rule × Pl :=
  match nx bs p 4 with
  | (a, p1) => match nx bs p1 5 with
  | (v, p2) => match nx bs p2 12 with
  | (c, p3) => match nx bs p3 14 with
  | (d, p4) => (⟨if c = 0 then 4 else a, lay0 cs, if c = 0 then 0 else if paired a = true then Int.tmod (lay0 cs + 1) 8 else 0, if d = 0 then 0 else v + 1, 0⟩, p4)
def dRu2 (bs : List UInt8) (cs : List ECell) (p : Pl) : Rule × Pl :=
  match dRu bs cs p with
  | (r, p1) => if r.value = 0 then (match nx bs p1 4 with | (a, p2) => (if a = 0 then (r, p2) else (⟨r.kind, r.layer, r.other, 2, r.percent⟩, p2))) else (r, p1)
def dRus (bs : List UInt8) (cs : List ECell) : Nat -> List Rule -> Pl -> List Rule × Pl
  | 0, rs, p => (rs, p)
  | n + 1, rs, p => dRus bs cs n (if hasR rs (dRu2 bs cs p).1 = true then rs else rs ++ [(dRu2 bs cs p).1]) (dRu2 bs cs p).2
def dDk (bs : List UInt8) (cs : List ECell) (p : Pl) : List Rule × Pl :=
  match nx bs p 3 with
  | (a, p1) => dRus bs cs (a + 1).toNat [] p1
def smC (N : Nat) (cs : List ECell) : Prop := ∀ i, i < cs.length -> ((gd cs i).name.size <= 9 ∧ (∀ j, j < (gd cs i).labels.length -> (gd (gd cs i).labels j).name.size <= 9) ∧ ∀ j, j < (gd cs i).shapes.length -> -2 <= (gd (gd cs i).shapes j).layer ∧ (gd (gd cs i).shapes j).layer <= 9) ∧ (gd cs i).shapes.length <= N ∧ (gd cs i).labels.length <= N ∧ (gd cs i).insts.length <= N
theorem smC.app {N : Nat} {cs : List ECell} {c : ECell} (h : smC N cs) (hn : c.name.size <= 9) (hl : ∀ j, j < c.labels.length -> (gd c.labels j).name.size <= 9) (hs : ∀ j, j < c.shapes.length -> -2 <= (gd c.shapes j).layer ∧ (gd c.shapes j).layer <= 9) (hN : c.shapes.length <= N ∧ c.labels.length <= N ∧ c.insts.length <= N) : smC N (cs ++ [c]) := fun i hi => by
 have hi : i < cs.length + 1 := by simpa using hi
 by_cases e : i = cs.length
 ·subst e; rw [gd_app_r]; exact ⟨⟨hn, hl, hs⟩, hN⟩
 ·rw [gd_app_l (by omega)]; exact h i (by omega)
theorem smC.mono {N M : Nat} {cs : List ECell} (h : smC N cs) (hm : N <= M) : smC M cs := fun i hi => by
 obtain ⟨h1, h2, h3, h4⟩ := h i hi
 exact ⟨h1, by omega, by omega, by omega⟩
theorem smC.lenC {N : Nat} {cs : List ECell} (h : smC N cs) : Go.Proofs.YtogocmlhnjiaaaaGreat.lenC cs := fun i hi => by
 obtain ⟨⟨h1, h2, _⟩, _⟩ := h i hi
 refine ⟨by omega, fun j hj => ?_⟩
 have := h2 j hj
 omega
theorem u8let {i : Int} (h : 0 <= i ∧ i <= 25) : IntKind.u8.wrap (97 + i) = ((UInt8.ofNat (97 + i.toNat)).toNat : Int) := by
 have e : IntKind.u8.wrap (97 + i) = 97 + i := by simp [IntKind.wrap, IntKind.bits, IntKind.signed]; omega
 rw [e, UInt8.toNat_ofNat']; omega
theorem erCls_app (xs : List Cell) (c : Cell) : erCls (xs ++ [c]) = erCls xs ++ [erCl c] := by simp [erCls]
theorem Cv.cellNew3 {xs : List Cell} {q a1 a2 a3 : Value} {nm : ByteArray} {s1 : List Shape} {s2 : List Inst} {s3 : List Label} {e0 e1 e2 e3 : TypeId} : Cv (osl e1 shapeT a1 s1 :: osl e2 labelT a3 s3 :: osl e3 instT a2 s2 :: osl e0 cellT q (xs ++ [⟨nm, ⟨a1, s1⟩, ⟨a3, s3⟩, ⟨a2, s2⟩⟩]) :: bagS e1 shapeT (shs xs) :: bagS e2 labelT (lbs xs) :: bagS e3 instT (ins xs) :: L)
  (osl e0 cellT q (xs ++ [⟨nm, ⟨a1, s1⟩, ⟨a3, s3⟩, ⟨a2, s2⟩⟩]) :: bagS e1 shapeT (shs (xs ++ [⟨nm, ⟨a1, s1⟩, ⟨a3, s3⟩, ⟨a2, s2⟩⟩])) :: bagS e2 labelT (lbs (xs ++ [⟨nm, ⟨a1, s1⟩, ⟨a3, s3⟩, ⟨a2, s2⟩⟩])) :: bagS e3 instT (ins (xs ++ [⟨nm, ⟨a1, s1⟩, ⟨a3, s3⟩, ⟨a2, s2⟩⟩])) :: L) := by
 have h := Cv.grow3 (e1 := e1) (e2 := e2) (e3 := e3) (F1 := shapeT) (F2 := labelT) (F3 := instT) (u1 := a1) (us1 := s1) (u2 := a3) (us2 := s3) (u3 := a2) (us3 := s2) (y1 := shs xs) (y2 := lbs xs) (y3 := ins xs) (L := L)
  (y1' := shs (xs ++ [⟨nm, ⟨a1, s1⟩, ⟨a3, s3⟩, ⟨a2, s2⟩⟩])) (y2' := lbs (xs ++ [⟨nm, ⟨a1, s1⟩, ⟨a3, s3⟩, ⟨a2, s2⟩⟩])) (y3' := ins (xs ++ [⟨nm, ⟨a1, s1⟩, ⟨a3, s3⟩, ⟨a2, s2⟩⟩])) (by simp [shs]) (by simp [lbs]) (by simp [ins])
 exact (Cv.p (C := osl e0 cellT q (xs ++ [⟨nm, ⟨a1, s1⟩, ⟨a3, s3⟩, ⟨a2, s2⟩⟩]) :: osl e1 shapeT a1 s1 :: osl e2 labelT a3 s3 :: osl e3 instT a2 s2 :: bagS e1 shapeT (shs xs) :: bagS e2 labelT (lbs xs) :: bagS e3 instT (ins xs) :: L)).trans (Cv.cons h)
theorem dLibF_s {b : Nat} {cv : Value} {bs : List UInt8} {p : Pl} (hcode : SL G byteT cv bs) (hp : OkP p) (k : ∀ v xs p', dLibF bs p = (erCls xs, p') -> OkP p' -> smC 10 (erCls xs) -> 1 <= xs.length -> xs.length <= 4 -> R (vT libT ⟨⟨v, xs⟩⟩) G (osl 95 cellT v (xs) :: bagS 109 shapeT (shs (xs)) :: bagS 182 labelT (lbs (xs)) :: bagS 111 instT (ins (xs)) :: sPl b cv p' :: L)) : CallT Tryz.prog 164 #[.pointer (some ⟨b, 0, none⟩)] G (sPl b cv p :: L) R := by
 refine CallT.enter (args := _) Tryz.func164 rfl rfl (by kernel_rfl) rfl ?_
 refine WP.sr ?_
 refine RG.ot rfl (OT.alloc rfl Zr26 fun b2 => ?_)
 refine RG.nil (WP.sr (RG.p (PV.build (vs := []) (out := [_]) rfl Zr26 Pl26 trivial rfl) ?_))
 refine RG.ot rfl (OT.alloc rfl Zr26 fun b3 => ?_)
 refine RG.ot rfl (OT.storeW (vs := [_]) rfl Sz26 rfl rfl (Cl.c rfl) rfl rfl (OneC.c rfl) ?_)
 refine RG.nil (WP.sr (RG.p (PV.move rfl rfl) ?_))
 refine RG.callF (vs := [_, _]) rfl rfl En57 rfl (CallT.exB (b := b) (nextP_s hcode (by assumption) (by omega) (fun w12 pw12 ew12 ow12 hw12 => ?_)))
 refine RG.p (PV.add rfl rfl rfl (by omega)) (RG.mr rfl (RG.nil (WP.seq (WP.sr (RG.mr rfl (RG.nil (WP.block ?_)))))))
 refine WP.cv (Cv.p (C := blk b3 26 [.slice none 0 0] :: blk b2 26 [.slice none 0 0] :: sPl b cv pw12 :: L)) ?_
 refine WP.cv ((((Cv.bag0 (e := 111) (F := instT) (xs := ins []) rfl).trans ((Cv.bag0 (e := 182) (F := labelT) (xs := lbs []) rfl).trans ((Cv.bag0 (e := 109) (F := shapeT) (xs := shs []) rfl).trans (Cv.nilS (e := 95) (F := cellT))))))) ?_
 refine WP.loop4 [0, 2, 3, 4] (fun (i : Int) (xs : List Cell) (q : Value) (pp : Pl) => (0 <= i ∧ i <= 1 + w12 ∧ 1 + w12 <= 4) ∧ xs.length = i.toNat ∧ smC 10 (erCls xs) ∧ OkP pp ∧ dCels bs (1 + w12 - i).toNat i (erCls xs) pp = dCels bs (1 + w12).toNat 0 [] pw12) (fun (i : Int) (xs : List Cell) (q : Value) (pp : Pl) => [(5, vi i)]) (fun (i : Int) (xs : List Cell) (q : Value) (pp : Pl) => osl 95 cellT q (xs) :: bagS 109 shapeT (shs (xs)) :: bagS 182 labelT (lbs (xs)) :: bagS 111 instT (ins (xs)) :: blk b3 26 [q] :: blk b2 26 [.slice none 0 0] :: sPl b cv pp :: L) (fun (i : Int) (xs : List Cell) (q : Value) (pp : Pl) => (1 + w12 - i).toNat) 0 [] (.slice none 0 0) pw12 ⟨by omega, rfl, fun i hi => by simp [erCls] at hi, by assumption, by simp [erCls]⟩ ⟨(by kernel_rfl), trivial⟩ Cv.p ?_
 rintro i xs q pp τ ⟨h0, h1, h2, h3, hd⟩
 refine WP.seq (WP.sr (RG.ml rfl (RG.ml rfl (RG.p (PV.lss rfl rfl rfl) (RG.nil ?_)))))
 refine WP.cond rfl (fun h5 => ?_) fun h5 => ?_
 ·have h5 := odt h5
  refine WP.skip (WP.seq (WP.block ?_))
  refine WP.cut3 [0, 2, 3, 4, 5] (fun (b6 : Nat) (nm : ByteArray) (p1 : Pl) => OkP p1 ∧ nm.size <= 9 ∧ (∃ n0, dName bs pp = (n0, p1) ∧ nm = txt [UInt8.ofNat (97 + i.toNat)] ++ n0)) (fun (b6 : Nat) (nm : ByteArray) (p1 : Pl) => [(6, .pointer (some ⟨b6, 0, none⟩))]) (fun (b6 : Nat) (nm : ByteArray) (p1 : Pl) => blk b6 95 [.string nm, .slice none 0 0, .slice none 0 0, .slice none 0 0] :: osl 95 cellT q (xs) :: bagS 109 shapeT (shs (xs)) :: bagS 182 labelT (lbs (xs)) :: bagS 111 instT (ins (xs)) :: blk b3 26 [q] :: blk b2 26 [.slice none 0 0] :: sPl b cv p1 :: L) ?_ ?_
  refine WP.regionHD [.b b] (.q 0 (.q 1 (.q 2 (.q 5 (.c 3 (.c 4 (.b 6 (.q 7 (.q 8 (.l 9 (.l 10 Sch.nil)))) 9 (.l 6 (.q 7 (.q 8 (.l 10 Sch.nil))))) 6 (.b 4 (.q 7 (.q 8 (.l 9 (.l 10 Sch.nil)))) 9 (.l 4 (.q 7 (.q 8 (.l 10 Sch.nil))))) 9 (.b 4 (.l 6 (.q 7 (.q 8 (.l 10 Sch.nil)))) 6 (.l 4 (.q 7 (.q 8 (.l 10 Sch.nil)))))) 6 (.b 3 (.b 4 (.q 7 (.q 8 (.l 9 (.l 10 Sch.nil)))) 9 (.l 4 (.q 7 (.q 8 (.l 10 Sch.nil))))) 9 (.l 3 (.l 4 (.q 7 (.q 8 (.l 10 Sch.nil)))))) 9 (.b 3 (.b 4 (.l 6 (.q 7 (.q 8 (.l 10 Sch.nil)))) 6 (.l 4 (.q 7 (.q 8 (.l 10 Sch.nil))))) 6 (.l 3 (.l 4 (.q 7 (.q 8 (.l 10 Sch.nil))))))))))) (by kernel_rfl) (by kernel_rfl) (by kernel_rfl) rfl ?_
  refine RH.w rfl rfl (PV.mvI (.inl rfl) rfl) (RH.w rfl rfl (PV.add rfl rfl rfl (by omega)) (RH.w rfl rfl (PV.conv rfl ⟨_, Tryz.underlying2⟩ Tryz.underlying5 rfl (u8let (by omega))) (RH.w rfl rfl (PV.move rfl rfl) ?_)))
  ·refine RH.ot3 rfl rfl rfl rfl rfl rfl  (OT.bslice (F := byteT) (els := [_]) rfl El22 rfl (by decide) rfl (by decide) ⟨rfl, (Cl.c rfl), trivial⟩ fun v22 => (kp ?_)) (OT.callF (vs := [_]) rfl En166 rfl (CallT.exB (b := b) (dName_s hcode (by assumption) (fun w25 pw25 ew25 ow25 hw25 => (kp ?_))))) (OT.alloc rfl Zr95 fun b6 => (kp ?_))
   ·refine RH.ot3 rfl rfl rfl rfl rfl rfl  (OT.pv (PV.convBS (v := v22) rfl Tryz.underlying22 Tryz.underlying5 Tryz.underlying9 rfl Rs.o) (kp ?_)) (OT.callF (vs := [_]) rfl En166 rfl (CallT.exB (b := b) (dName_s hcode (by assumption) (fun w25 pw25 ew25 ow25 hw25 => (kp ?_))))) (OT.alloc rfl Zr95 fun b6 => (kp ?_))
    ·refine RH.ot2 rfl rfl rfl rfl  (OT.callF (vs := [_]) rfl En166 rfl (CallT.exB (b := b) (dName_s hcode (by assumption) (fun w25 pw25 ew25 ow25 hw25 => (kp ?_))))) (OT.alloc rfl Zr95 fun b6 => (kp ?_))
     ·refine RH.w rfl rfl (PV.addS rfl rfl rfl (by first | omega | (simp [txt_size] <;> omega) | (have : (ByteArray.mk #[109]).size = 1 := rfl; omega))) ?_
      refine RH.w rfl rfl (PV.build (vs := [(0, [.string _])]) (out := [_, _, _, _]) rfl Zr95 Pl95 ⟨rfl, (Cl.c rfl), trivial⟩ rfl) ?_
      refine RH.ot rfl rfl (OT.alloc rfl Zr95 fun b6 => (kp ?_))
      refine RH.ot rfl rfl (OT.storeW (vs := [.string _, _, _, _]) rfl Sz95 rfl rfl (Cl.c rfl) rfl rfl (OneC.val rfl (OneC.val rfl (OneC.val rfl (OneC.val rfl OneC.nil)))) (kp ?_))
      refine RH.nil ?_
      exact ⟨rfl, b6, (txt [UInt8.ofNat (97 + i.toNat)] ++ w25), pw25, ⟨by assumption, by rw [ByteArray.size_append, txt_size]; simp only [List.length_cons, List.length_nil]; omega, w25, ew25, rfl⟩, ⟨(by kernel_rfl), trivial⟩, ⟨(by kernel_rfl), (by kernel_rfl), (by kernel_rfl), (by kernel_rfl), (by kernel_rfl), trivial⟩, Cv.p⟩
     ·refine RH.ot rfl rfl (OT.callF (vs := [_]) rfl En166 rfl (CallT.exB (b := b) (dName_s hcode (by assumption) (fun w25 pw25 ew25 ow25 hw25 => (kp ?_)))))
      refine RH.w rfl rfl (PV.addS rfl rfl rfl (by first | omega | (simp [txt_size] <;> omega) | (have : (ByteArray.mk #[109]).size = 1 := rfl; omega))) (RH.w rfl rfl (PV.build (vs := [(0, [.string _])]) (out := [_, _, _, _]) rfl Zr95 Pl95 ⟨rfl, (Cl.c rfl), trivial⟩ rfl) ?_)
      refine RH.ot rfl rfl (OT.storeW (vs := [.string _, _, _, _]) rfl Sz95 rfl rfl (Cl.c rfl) rfl rfl (OneC.val rfl (OneC.val rfl (OneC.val rfl (OneC.val rfl OneC.nil)))) (kp ?_))
      refine RH.nil ?_
      exact ⟨rfl, b6, (txt [UInt8.ofNat (97 + i.toNat)] ++ w25), pw25, ⟨by assumption, by rw [ByteArray.size_append, txt_size]; simp only [List.length_cons, List.length_nil]; omega, w25, ew25, rfl⟩, ⟨(by kernel_rfl), trivial⟩, ⟨(by kernel_rfl), (by kernel_rfl), (by kernel_rfl), (by kernel_rfl), (by kernel_rfl), trivial⟩, Cv.p⟩
    ·refine RH.ot2 rfl rfl rfl rfl  (OT.pv (PV.convBS (v := v22) rfl Tryz.underlying22 Tryz.underlying5 Tryz.underlying9 rfl Rs.o) (kp ?_)) (OT.alloc rfl Zr95 fun b6 => (kp ?_))
     ·refine RH.w rfl rfl (PV.addS rfl rfl rfl (by first | omega | (simp [txt_size] <;> omega) | (have : (ByteArray.mk #[109]).size = 1 := rfl; omega))) ?_
      refine RH.w rfl rfl (PV.build (vs := [(0, [.string _])]) (out := [_, _, _, _]) rfl Zr95 Pl95 ⟨rfl, (Cl.c rfl), trivial⟩ rfl) ?_
      refine RH.ot rfl rfl (OT.alloc rfl Zr95 fun b6 => (kp ?_))
      refine RH.ot rfl rfl (OT.storeW (vs := [.string _, _, _, _]) rfl Sz95 rfl rfl (Cl.c rfl) rfl rfl (OneC.val rfl (OneC.val rfl (OneC.val rfl (OneC.val rfl OneC.nil)))) (kp ?_))
      refine RH.nil ?_
      exact ⟨rfl, b6, (txt [UInt8.ofNat (97 + i.toNat)] ++ w25), pw25, ⟨by assumption, by rw [ByteArray.size_append, txt_size]; simp only [List.length_cons, List.length_nil]; omega, w25, ew25, rfl⟩, ⟨(by kernel_rfl), trivial⟩, ⟨(by kernel_rfl), (by kernel_rfl), (by kernel_rfl), (by kernel_rfl), (by kernel_rfl), trivial⟩, Cv.p⟩
     ·refine RH.ot rfl rfl (OT.pv (PV.convBS (v := v22) rfl Tryz.underlying22 Tryz.underlying5 Tryz.underlying9 rfl Rs.o) (kp ?_))
      refine RH.w rfl rfl (PV.addS rfl rfl rfl (by first | omega | (simp [txt_size] <;> omega) | (have : (ByteArray.mk #[109]).size = 1 := rfl; omega))) (RH.w rfl rfl (PV.build (vs := [(0, [.string _])]) (out := [_, _, _, _]) rfl Zr95 Pl95 ⟨rfl, (Cl.c rfl), trivial⟩ rfl) ?_)
      refine RH.ot rfl rfl (OT.storeW (vs := [.string _, _, _, _]) rfl Sz95 rfl rfl (Cl.c rfl) rfl rfl (OneC.val rfl (OneC.val rfl (OneC.val rfl (OneC.val rfl OneC.nil)))) (kp ?_))
      refine RH.nil ?_
      exact ⟨rfl, b6, (txt [UInt8.ofNat (97 + i.toNat)] ++ w25), pw25, ⟨by assumption, by rw [ByteArray.size_append, txt_size]; simp only [List.length_cons, List.length_nil]; omega, w25, ew25, rfl⟩, ⟨(by kernel_rfl), trivial⟩, ⟨(by kernel_rfl), (by kernel_rfl), (by kernel_rfl), (by kernel_rfl), (by kernel_rfl), trivial⟩, Cv.p⟩
    ·refine RH.ot2 rfl rfl rfl rfl  (OT.pv (PV.convBS (v := v22) rfl Tryz.underlying22 Tryz.underlying5 Tryz.underlying9 rfl Rs.o) (kp ?_)) (OT.callF (vs := [_]) rfl En166 rfl (CallT.exB (b := b) (dName_s hcode (by assumption) (fun w25 pw25 ew25 ow25 hw25 => (kp ?_)))))
     ·refine RH.ot rfl rfl (OT.callF (vs := [_]) rfl En166 rfl (CallT.exB (b := b) (dName_s hcode (by assumption) (fun w25 pw25 ew25 ow25 hw25 => (kp ?_)))))
      refine RH.w rfl rfl (PV.addS rfl rfl rfl (by first | omega | (simp [txt_size] <;> omega) | (have : (ByteArray.mk #[109]).size = 1 := rfl; omega))) (RH.w rfl rfl (PV.build (vs := [(0, [.string _])]) (out := [_, _, _, _]) rfl Zr95 Pl95 ⟨rfl, (Cl.c rfl), trivial⟩ rfl) ?_)
      refine RH.ot rfl rfl (OT.storeW (vs := [.string _, _, _, _]) rfl Sz95 rfl rfl (Cl.c rfl) rfl rfl (OneC.val rfl (OneC.val rfl (OneC.val rfl (OneC.val rfl OneC.nil)))) (kp ?_))
      refine RH.nil ?_
      exact ⟨rfl, b6, (txt [UInt8.ofNat (97 + i.toNat)] ++ w25), pw25, ⟨by assumption, by rw [ByteArray.size_append, txt_size]; simp only [List.length_cons, List.length_nil]; omega, w25, ew25, rfl⟩, ⟨(by kernel_rfl), trivial⟩, ⟨(by kernel_rfl), (by kernel_rfl), (by kernel_rfl), (by kernel_rfl), (by kernel_rfl), trivial⟩, Cv.p⟩
     ·refine RH.ot rfl rfl (OT.pv (PV.convBS (v := v22) rfl Tryz.underlying22 Tryz.underlying5 Tryz.underlying9 rfl Rs.o) (kp ?_))
      refine RH.w rfl rfl (PV.addS rfl rfl rfl (by first | omega | (simp [txt_size] <;> omega) | (have : (ByteArray.mk #[109]).size = 1 := rfl; omega))) (RH.w rfl rfl (PV.build (vs := [(0, [.string _])]) (out := [_, _, _, _]) rfl Zr95 Pl95 ⟨rfl, (Cl.c rfl), trivial⟩ rfl) ?_)
      refine RH.ot rfl rfl (OT.storeW (vs := [.string _, _, _, _]) rfl Sz95 rfl rfl (Cl.c rfl) rfl rfl (OneC.val rfl (OneC.val rfl (OneC.val rfl (OneC.val rfl OneC.nil)))) (kp ?_))
      refine RH.nil ?_
      exact ⟨rfl, b6, (txt [UInt8.ofNat (97 + i.toNat)] ++ w25), pw25, ⟨by assumption, by rw [ByteArray.size_append, txt_size]; simp only [List.length_cons, List.length_nil]; omega, w25, ew25, rfl⟩, ⟨(by kernel_rfl), trivial⟩, ⟨(by kernel_rfl), (by kernel_rfl), (by kernel_rfl), (by kernel_rfl), (by kernel_rfl), trivial⟩, Cv.p⟩
   ·refine RH.ot2 rfl rfl rfl rfl  (OT.bslice (F := byteT) (els := [_]) rfl El22 rfl (by decide) rfl (by decide) ⟨rfl, (Cl.c rfl), trivial⟩ fun v22 => (kp ?_)) (OT.alloc rfl Zr95 fun b6 => (kp ?_))
    ·refine RH.ot2 rfl rfl rfl rfl  (OT.pv (PV.convBS (v := v22) rfl Tryz.underlying22 Tryz.underlying5 Tryz.underlying9 rfl Rs.o) (kp ?_)) (OT.alloc rfl Zr95 fun b6 => (kp ?_))
     ·refine RH.w rfl rfl (PV.addS rfl rfl rfl (by first | omega | (simp [txt_size] <;> omega) | (have : (ByteArray.mk #[109]).size = 1 := rfl; omega))) ?_
      refine RH.w rfl rfl (PV.build (vs := [(0, [.string _])]) (out := [_, _, _, _]) rfl Zr95 Pl95 ⟨rfl, (Cl.c rfl), trivial⟩ rfl) ?_
      refine RH.ot rfl rfl (OT.alloc rfl Zr95 fun b6 => (kp ?_))
      refine RH.ot rfl rfl (OT.storeW (vs := [.string _, _, _, _]) rfl Sz95 rfl rfl (Cl.c rfl) rfl rfl (OneC.val rfl (OneC.val rfl (OneC.val rfl (OneC.val rfl OneC.nil)))) (kp ?_))
      refine RH.nil ?_
      exact ⟨rfl, b6, (txt [UInt8.ofNat (97 + i.toNat)] ++ w25), pw25, ⟨by assumption, by rw [ByteArray.size_append, txt_size]; simp only [List.length_cons, List.length_nil]; omega, w25, ew25, rfl⟩, ⟨(by kernel_rfl), trivial⟩, ⟨(by kernel_rfl), (by kernel_rfl), (by kernel_rfl), (by kernel_rfl), (by kernel_rfl), trivial⟩, Cv.p⟩
     ·refine RH.ot rfl rfl (OT.pv (PV.convBS (v := v22) rfl Tryz.underlying22 Tryz.underlying5 Tryz.underlying9 rfl Rs.o) (kp ?_))
      refine RH.w rfl rfl (PV.addS rfl rfl rfl (by first | omega | (simp [txt_size] <;> omega) | (have : (ByteArray.mk #[109]).size = 1 := rfl; omega))) (RH.w rfl rfl (PV.build (vs := [(0, [.string _])]) (out := [_, _, _, _]) rfl Zr95 Pl95 ⟨rfl, (Cl.c rfl), trivial⟩ rfl) ?_)
      refine RH.ot rfl rfl (OT.storeW (vs := [.string _, _, _, _]) rfl Sz95 rfl rfl (Cl.c rfl) rfl rfl (OneC.val rfl (OneC.val rfl (OneC.val rfl (OneC.val rfl OneC.nil)))) (kp ?_))
      refine RH.nil ?_
      exact ⟨rfl, b6, (txt [UInt8.ofNat (97 + i.toNat)] ++ w25), pw25, ⟨by assumption, by rw [ByteArray.size_append, txt_size]; simp only [List.length_cons, List.length_nil]; omega, w25, ew25, rfl⟩, ⟨(by kernel_rfl), trivial⟩, ⟨(by kernel_rfl), (by kernel_rfl), (by kernel_rfl), (by kernel_rfl), (by kernel_rfl), trivial⟩, Cv.p⟩
    ·refine RH.ot rfl rfl (OT.bslice (F := byteT) (els := [_]) rfl El22 rfl (by decide) rfl (by decide) ⟨rfl, (Cl.c rfl), trivial⟩ fun v22 => (kp ?_))
     refine RH.ot rfl rfl (OT.pv (PV.convBS (v := v22) rfl Tryz.underlying22 Tryz.underlying5 Tryz.underlying9 rfl Rs.o) (kp ?_))
     refine RH.w rfl rfl (PV.addS rfl rfl rfl (by first | omega | (simp [txt_size] <;> omega) | (have : (ByteArray.mk #[109]).size = 1 := rfl; omega))) (RH.w rfl rfl (PV.build (vs := [(0, [.string _])]) (out := [_, _, _, _]) rfl Zr95 Pl95 ⟨rfl, (Cl.c rfl), trivial⟩ rfl) ?_)
     refine RH.ot rfl rfl (OT.storeW (vs := [.string _, _, _, _]) rfl Sz95 rfl rfl (Cl.c rfl) rfl rfl (OneC.val rfl (OneC.val rfl (OneC.val rfl (OneC.val rfl OneC.nil)))) (kp ?_))
     refine RH.nil ?_
     exact ⟨rfl, b6, (txt [UInt8.ofNat (97 + i.toNat)] ++ w25), pw25, ⟨by assumption, by rw [ByteArray.size_append, txt_size]; simp only [List.length_cons, List.length_nil]; omega, w25, ew25, rfl⟩, ⟨(by kernel_rfl), trivial⟩, ⟨(by kernel_rfl), (by kernel_rfl), (by kernel_rfl), (by kernel_rfl), (by kernel_rfl), trivial⟩, Cv.p⟩
   ·refine RH.ot2 rfl rfl rfl rfl  (OT.bslice (F := byteT) (els := [_]) rfl El22 rfl (by decide) rfl (by decide) ⟨rfl, (Cl.c rfl), trivial⟩ fun v22 => (kp ?_)) (OT.callF (vs := [_]) rfl En166 rfl (CallT.exB (b := b) (dName_s hcode (by assumption) (fun w25 pw25 ew25 ow25 hw25 => (kp ?_)))))
    ·refine RH.ot2 rfl rfl rfl rfl  (OT.pv (PV.convBS (v := v22) rfl Tryz.underlying22 Tryz.underlying5 Tryz.underlying9 rfl Rs.o) (kp ?_)) (OT.callF (vs := [_]) rfl En166 rfl (CallT.exB (b := b) (dName_s hcode (by assumption) (fun w25 pw25 ew25 ow25 hw25 => (kp ?_)))))
     ·refine RH.ot rfl rfl (OT.callF (vs := [_]) rfl En166 rfl (CallT.exB (b := b) (dName_s hcode (by assumption) (fun w25 pw25 ew25 ow25 hw25 => (kp ?_)))))
      refine RH.w rfl rfl (PV.addS rfl rfl rfl (by first | omega | (simp [txt_size] <;> omega) | (have : (ByteArray.mk #[109]).size = 1 := rfl; omega))) (RH.w rfl rfl (PV.build (vs := [(0, [.string _])]) (out := [_, _, _, _]) rfl Zr95 Pl95 ⟨rfl, (Cl.c rfl), trivial⟩ rfl) ?_)
      refine RH.ot rfl rfl (OT.storeW (vs := [.string _, _, _, _]) rfl Sz95 rfl rfl (Cl.c rfl) rfl rfl (OneC.val rfl (OneC.val rfl (OneC.val rfl (OneC.val rfl OneC.nil)))) (kp ?_))
      refine RH.nil ?_
      exact ⟨rfl, b6, (txt [UInt8.ofNat (97 + i.toNat)] ++ w25), pw25, ⟨by assumption, by rw [ByteArray.size_append, txt_size]; simp only [List.length_cons, List.length_nil]; omega, w25, ew25, rfl⟩, ⟨(by kernel_rfl), trivial⟩, ⟨(by kernel_rfl), (by kernel_rfl), (by kernel_rfl), (by kernel_rfl), (by kernel_rfl), trivial⟩, Cv.p⟩
     ·refine RH.ot rfl rfl (OT.pv (PV.convBS (v := v22) rfl Tryz.underlying22 Tryz.underlying5 Tryz.underlying9 rfl Rs.o) (kp ?_))
      refine RH.w rfl rfl (PV.addS rfl rfl rfl (by first | omega | (simp [txt_size] <;> omega) | (have : (ByteArray.mk #[109]).size = 1 := rfl; omega))) (RH.w rfl rfl (PV.build (vs := [(0, [.string _])]) (out := [_, _, _, _]) rfl Zr95 Pl95 ⟨rfl, (Cl.c rfl), trivial⟩ rfl) ?_)
      refine RH.ot rfl rfl (OT.storeW (vs := [.string _, _, _, _]) rfl Sz95 rfl rfl (Cl.c rfl) rfl rfl (OneC.val rfl (OneC.val rfl (OneC.val rfl (OneC.val rfl OneC.nil)))) (kp ?_))
      refine RH.nil ?_
      exact ⟨rfl, b6, (txt [UInt8.ofNat (97 + i.toNat)] ++ w25), pw25, ⟨by assumption, by rw [ByteArray.size_append, txt_size]; simp only [List.length_cons, List.length_nil]; omega, w25, ew25, rfl⟩, ⟨(by kernel_rfl), trivial⟩, ⟨(by kernel_rfl), (by kernel_rfl), (by kernel_rfl), (by kernel_rfl), (by kernel_rfl), trivial⟩, Cv.p⟩
    ·refine RH.ot rfl rfl (OT.bslice (F := byteT) (els := [_]) rfl El22 rfl (by decide) rfl (by decide) ⟨rfl, (Cl.c rfl), trivial⟩ fun v22 => (kp ?_))
     refine RH.ot rfl rfl (OT.pv (PV.convBS (v := v22) rfl Tryz.underlying22 Tryz.underlying5 Tryz.underlying9 rfl Rs.o) (kp ?_))
     refine RH.w rfl rfl (PV.addS rfl rfl rfl (by first | omega | (simp [txt_size] <;> omega) | (have : (ByteArray.mk #[109]).size = 1 := rfl; omega))) (RH.w rfl rfl (PV.build (vs := [(0, [.string _])]) (out := [_, _, _, _]) rfl Zr95 Pl95 ⟨rfl, (Cl.c rfl), trivial⟩ rfl) ?_)
     refine RH.ot rfl rfl (OT.storeW (vs := [.string _, _, _, _]) rfl Sz95 rfl rfl (Cl.c rfl) rfl rfl (OneC.val rfl (OneC.val rfl (OneC.val rfl (OneC.val rfl OneC.nil)))) (kp ?_))
     refine RH.nil ?_
     exact ⟨rfl, b6, (txt [UInt8.ofNat (97 + i.toNat)] ++ w25), pw25, ⟨by assumption, by rw [ByteArray.size_append, txt_size]; simp only [List.length_cons, List.length_nil]; omega, w25, ew25, rfl⟩, ⟨(by kernel_rfl), trivial⟩, ⟨(by kernel_rfl), (by kernel_rfl), (by kernel_rfl), (by kernel_rfl), (by kernel_rfl), trivial⟩, Cv.p⟩
  rintro b6 nm p1 τ1 ⟨hp1, hnm, hd1⟩
  refine WP.seq (WP.sr (RG.p (PV.move rfl rfl) ?_))
  refine RG.callF (vs := [_, _]) rfl rfl En57 rfl (CallT.exB (b := b) (nextP_s hcode (by assumption) (by omega) (fun w29 pw29 ew29 ow29 hw29 => ?_)))
  refine RG.mr rfl (RG.nil (WP.block ?_))
  refine WP.cv (Cv.nilS (e := 109) (F := shapeT)) ?_
  refine WP.loop4 [0, 2, 3, 4, 5, 6] (fun (m : Int) (ss : List Shape) (u1 : Value) (pm : Pl) => (0 <= m ∧ m <= 4) ∧ (ss.length : Int) + m <= 4 ∧ OkP pm ∧ dShps bs m.toNat ss pm = dShps bs w29.toNat [] pw29 ∧ (∀ j, j < ss.length -> -2 <= (gd ss j).layer ∧ (gd ss j).layer <= 9)) (fun (m : Int) (ss : List Shape) (u1 : Value) (pm : Pl) => [(7, vi m)]) (fun (m : Int) (ss : List Shape) (u1 : Value) (pm : Pl) => osl 109 shapeT u1 ss :: blk b6 95 [.string nm, u1, .slice none 0 0, .slice none 0 0] :: osl 95 cellT q (xs) :: bagS 109 shapeT (shs (xs)) :: bagS 182 labelT (lbs (xs)) :: bagS 111 instT (ins (xs)) :: blk b3 26 [q] :: blk b2 26 [.slice none 0 0] :: sPl b cv pm :: L) (fun (m : Int) (ss : List Shape) (u1 : Value) (pm : Pl) => m.toNat) w29 [] (.slice none 0 0) pw29 ⟨by omega, by simp; omega, by assumption, rfl, fun j hj => by simp at hj⟩ ⟨(by kernel_rfl), trivial⟩ Cv.p ?_
  rintro m ss u1 pm τ2 ⟨g0, g1, g2, g3, g4⟩
  refine WP.seq (WP.sr (RG.ml rfl (RG.p (PV.gtr rfl rfl rfl) (RG.nil ?_))))
  refine WP.cond rfl (fun h6 => ?_) fun h6 => ?_
  ·have h6 := odt h6
   refine WP.skip ?_
   refine WP.cut3 [0, 2, 3, 4, 5, 6, 7] (fun (u2 : Value) (x : Shape) (pn : Pl) => OkP pn ∧ dShp bs pm = (x, pn) ∧ -2 <= x.layer ∧ x.layer <= 9) (fun (u2 : Value) (x : Shape) (pn : Pl) => []) (fun (u2 : Value) (x : Shape) (pn : Pl) => osl 109 shapeT u2 (ss ++ [x]) :: blk b6 95 [.string nm, u2, .slice none 0 0, .slice none 0 0] :: osl 95 cellT q (xs) :: bagS 109 shapeT (shs (xs)) :: bagS 182 labelT (lbs (xs)) :: bagS 111 instT (ins (xs)) :: blk b3 26 [q] :: blk b2 26 [.slice none 0 0] :: sPl b cv pn :: L) ?_ ?_
   refine WP.block ?_
   refine WP.regionHD [.s u1, .b b6, .b b] (.q 0 (.q 2 (.b 1 (.l 3 (.l 4 (.l 5 (.q 6 (.l 7 Sch.nil))))) 3 (.b 1 (.l 4 (.l 5 (.q 6 (.l 7 Sch.nil)))) 4 (.l 1 (.l 5 (.q 6 (.l 7 Sch.nil)))))))) (by kernel_rfl) (by kernel_rfl) (by kernel_rfl) rfl ?_
   refine RH.w rfl rfl (PV.field rfl Fo95_1 rfl) (RH.w rfl rfl (PV.move rfl rfl) ?_)
   ·refine RH.ot2 rfl rfl rfl rfl  (OT.pv (PV.load1 rfl Sc66 rfl (Rd.blk rfl)) (kp ?_)) (OT.callF (vs := [_]) rfl En167 rfl (CallT.exB (b := b) (dShp_s hcode (by assumption) (fun w37 pw37 ew37 ow37 hw37 => (kp ?_)))))
    ·refine RH.ot rfl rfl (OT.callF (vs := [_]) rfl En167 rfl (CallT.exB (b := b) (dShp_s hcode (by assumption) (fun w37 pw37 ew37 ow37 hw37 => (kp ?_)))))
     refine RH.ot rfl rfl (OT.bslice (F := shapeT) (els := [_]) rfl El66 rfl (by decide) rfl (by decide) ⟨rfl, (Cl.c rfl), trivial⟩ fun v38 => (kp ?_))
     refine RH.ot rfl rfl (OT.append (v := u1) (u := v38) (F := shapeT) rfl El66 rfl (by decide) rfl rfl Rs.o (OneL.c (fun _ => rfl)) rfl (by first | omega | (simp <;> omega)) fun v39 => (kp ?_))
     refine RH.w rfl rfl (PV.field rfl Fo95_1 rfl) ?_
     refine RH.ot rfl rfl (OT.storeB (v := v39) (vs := [_]) (cs' := [_, _, _, _]) rfl Sz66 rfl rfl (Cl.s (v := v39) SlF.o) rfl (OneC.sl SlF.o OneC.nil) rfl rfl (kp ?_))
     refine RH.nil ?_
     exact ⟨rfl, v39, w37, pw37, ⟨by assumption, ew37, hw37⟩, trivial, ⟨(by kernel_rfl), (by kernel_rfl), (by kernel_rfl), (by kernel_rfl), (by kernel_rfl), (by kernel_rfl), (by kernel_rfl), trivial⟩, Cv.p⟩
    ·refine RH.ot2 rfl rfl rfl rfl  (OT.pv (PV.load1 rfl Sc66 rfl (Rd.blk rfl)) (kp ?_)) (OT.bslice (F := shapeT) (els := [_]) rfl El66 rfl (by decide) rfl (by decide) ⟨rfl, (Cl.c rfl), trivial⟩ fun v38 => (kp ?_))
     ·refine RH.ot rfl rfl (OT.bslice (F := shapeT) (els := [_]) rfl El66 rfl (by decide) rfl (by decide) ⟨rfl, (Cl.c rfl), trivial⟩ fun v38 => (kp ?_))
      refine RH.ot rfl rfl (OT.append (v := u1) (u := v38) (F := shapeT) rfl El66 rfl (by decide) rfl rfl Rs.o (OneL.c (fun _ => rfl)) rfl (by first | omega | (simp <;> omega)) fun v39 => (kp ?_))
      refine RH.w rfl rfl (PV.field rfl Fo95_1 rfl) ?_
      refine RH.ot rfl rfl (OT.storeB (v := v39) (vs := [_]) (cs' := [_, _, _, _]) rfl Sz66 rfl rfl (Cl.s (v := v39) SlF.o) rfl (OneC.sl SlF.o OneC.nil) rfl rfl (kp ?_))
      refine RH.nil ?_
      exact ⟨rfl, v39, w37, pw37, ⟨by assumption, ew37, hw37⟩, trivial, ⟨(by kernel_rfl), (by kernel_rfl), (by kernel_rfl), (by kernel_rfl), (by kernel_rfl), (by kernel_rfl), (by kernel_rfl), trivial⟩, Cv.p⟩
     ·refine RH.ot rfl rfl (OT.pv (PV.load1 rfl Sc66 rfl (Rd.blk rfl)) (kp ?_))
      refine RH.ot rfl rfl (OT.append (v := u1) (u := v38) (F := shapeT) rfl El66 rfl (by decide) rfl rfl Rs.o (OneL.c (fun _ => rfl)) rfl (by first | omega | (simp <;> omega)) fun v39 => (kp ?_))
      refine RH.w rfl rfl (PV.field rfl Fo95_1 rfl) ?_
      refine RH.ot rfl rfl (OT.storeB (v := v39) (vs := [_]) (cs' := [_, _, _, _]) rfl Sz66 rfl rfl (Cl.s (v := v39) SlF.o) rfl (OneC.sl SlF.o OneC.nil) rfl rfl (kp ?_))
      refine RH.nil ?_
      exact ⟨rfl, v39, w37, pw37, ⟨by assumption, ew37, hw37⟩, trivial, ⟨(by kernel_rfl), (by kernel_rfl), (by kernel_rfl), (by kernel_rfl), (by kernel_rfl), (by kernel_rfl), (by kernel_rfl), trivial⟩, Cv.p⟩
   rintro u2 x pn τ3 ⟨hpn, hdn, hxn⟩
   refine WP.region (RG.ml rfl (RG.p (PV.sub rfl rfl rfl (by omega)) (RG.mr rfl (RG.nil ?_))))
   have hd2 : dShps bs (m - 1).toNat (ss ++ [x]) pn = dShps bs w29.toNat [] pw29 := by
    rw [<- g3, show m.toNat = (m - 1).toNat + 1 by omega, dShps, hdn]
   refine ⟨rfl, m - 1, (ss ++ [x]), u2, pn, ⟨by omega, by simp; omega, hpn, hd2, fun j hj => ?_⟩, ⟨(by kernel_rfl), trivial⟩, ⟨(by kernel_rfl), (by kernel_rfl), (by kernel_rfl), (by kernel_rfl), (by kernel_rfl), (by kernel_rfl), trivial⟩, Cv.p, by omega⟩
   have hj : j < ss.length + 1 := by simpa using hj
   by_cases e : j = ss.length
   ·subst e; rw [gd_app_r]; exact hxn
   ·rw [gd_app_l (by omega)]; exact g4 j (by omega)
  ·have h6 := odf h6
   rw [show m.toNat = 0 by omega, dShps] at g3
   refine WP.cv (Cv.nilS (e := 182) (F := labelT)) ?_
   refine WP.exit (WP.seq (WP.sr (RG.p (PV.move rfl rfl) ?_)))
   refine RG.callF (vs := [_, _]) rfl rfl En57 rfl (CallT.exB (b := b) (nextP_s hcode (by assumption) (by omega) (fun w42 pw42 ew42 ow42 hw42 => ?_)))
   refine RG.mr rfl (RG.nil (WP.block ?_))
   refine WP.loop4 [0, 2, 3, 4, 5, 6] (fun (m2 : Int) (ls : List Label) (u2 : Value) (pm2 : Pl) => (0 <= m2 ∧ m2 <= 3) ∧ (ls.length : Int) + m2 <= 3 ∧ OkP pm2 ∧ dLbls bs m2.toNat ls pm2 = dLbls bs w42.toNat [] pw42 ∧ (∀ j, j < ls.length -> (gd ls j).name.size <= 9)) (fun (m2 : Int) (ls : List Label) (u2 : Value) (pm2 : Pl) => [(8, vi m2)]) (fun (m2 : Int) (ls : List Label) (u2 : Value) (pm2 : Pl) => osl 182 labelT u2 ls :: blk b6 95 [.string nm, u1, u2, .slice none 0 0] :: osl 109 shapeT u1 ss :: osl 95 cellT q (xs) :: bagS 109 shapeT (shs (xs)) :: bagS 182 labelT (lbs (xs)) :: bagS 111 instT (ins (xs)) :: blk b3 26 [q] :: blk b2 26 [.slice none 0 0] :: sPl b cv pm2 :: L) (fun (m2 : Int) (ls : List Label) (u2 : Value) (pm2 : Pl) => m2.toNat) w42 [] (.slice none 0 0) pw42 ⟨by omega, by simp; omega, by assumption, rfl, fun j hj => by simp at hj⟩ ⟨(by kernel_rfl), trivial⟩ Cv.p ?_
   rintro m2 ls u2 pm2 τ4 ⟨j0, j1, j2, j3, j4⟩
   refine WP.seq (WP.sr (RG.ml rfl (RG.p (PV.gtr rfl rfl rfl) (RG.nil ?_))))
   refine WP.cond rfl (fun h7 => ?_) fun h7 => ?_
   ·have h7 := odt h7
    refine WP.skip ?_
    refine WP.cut3 [0, 2, 3, 4, 5, 6, 8] (fun (u3 : Value) (x : Label) (pn : Pl) => OkP pn ∧ dLbl bs pm2 = (x, pn) ∧ x.name.size <= 4) (fun (u3 : Value) (x : Label) (pn : Pl) => []) (fun (u3 : Value) (x : Label) (pn : Pl) => osl 182 labelT u3 (ls ++ [x]) :: blk b6 95 [.string nm, u1, u3, .slice none 0 0] :: osl 109 shapeT u1 ss :: osl 95 cellT q (xs) :: bagS 109 shapeT (shs (xs)) :: bagS 182 labelT (lbs (xs)) :: bagS 111 instT (ins (xs)) :: blk b3 26 [q] :: blk b2 26 [.slice none 0 0] :: sPl b cv pn :: L) ?_ ?_
    refine WP.block ?_
    refine WP.regionHD [.s u2, .b b6, .b b] (.q 0 (.q 2 (.b 1 (.l 3 (.l 4 (.l 5 (.q 6 (.l 7 Sch.nil))))) 3 (.b 1 (.l 4 (.l 5 (.q 6 (.l 7 Sch.nil)))) 4 (.l 1 (.l 5 (.q 6 (.l 7 Sch.nil)))))))) (by kernel_rfl) (by kernel_rfl) (by kernel_rfl) rfl ?_
    refine RH.w rfl rfl (PV.field rfl Fo95_2 rfl) (RH.w rfl rfl (PV.move rfl rfl) ?_)
    ·refine RH.ot2 rfl rfl rfl rfl  (OT.pv (PV.load1 rfl Sc92 rfl (Rd.blk rfl)) (kp ?_)) (OT.callF (vs := [_]) rfl En207 rfl (CallT.exB (b := b) (dLbl_s hcode (by assumption) (fun w50 pw50 ew50 ow50 hw50 => (kp ?_)))))
     ·refine RH.ot rfl rfl (OT.callF (vs := [_]) rfl En207 rfl (CallT.exB (b := b) (dLbl_s hcode (by assumption) (fun w50 pw50 ew50 ow50 hw50 => (kp ?_)))))
      refine RH.ot rfl rfl (OT.bslice (F := labelT) (els := [_]) rfl El92 rfl (by decide) rfl (by decide) ⟨rfl, (Cl.c rfl), trivial⟩ fun v51 => (kp ?_))
      refine RH.ot rfl rfl (OT.append (v := u2) (u := v51) (F := labelT) rfl El92 rfl (by decide) rfl rfl Rs.o (OneL.c (fun _ => rfl)) rfl (by first | omega | (simp <;> omega)) fun v52 => (kp ?_))
      refine RH.w rfl rfl (PV.field rfl Fo95_2 rfl) ?_
      refine RH.ot rfl rfl (OT.storeB (v := v52) (vs := [_]) (cs' := [_, _, _, _]) rfl Sz92 rfl rfl (Cl.s (v := v52) SlF.o) rfl (OneC.sl SlF.o OneC.nil) rfl rfl (kp ?_))
      refine RH.nil ?_
      exact ⟨rfl, v52, w50, pw50, ⟨by assumption, ew50, hw50⟩, trivial, ⟨(by kernel_rfl), (by kernel_rfl), (by kernel_rfl), (by kernel_rfl), (by kernel_rfl), (by kernel_rfl), (by kernel_rfl), trivial⟩, Cv.p⟩
     ·refine RH.ot2 rfl rfl rfl rfl  (OT.pv (PV.load1 rfl Sc92 rfl (Rd.blk rfl)) (kp ?_)) (OT.bslice (F := labelT) (els := [_]) rfl El92 rfl (by decide) rfl (by decide) ⟨rfl, (Cl.c rfl), trivial⟩ fun v51 => (kp ?_))
      ·refine RH.ot rfl rfl (OT.bslice (F := labelT) (els := [_]) rfl El92 rfl (by decide) rfl (by decide) ⟨rfl, (Cl.c rfl), trivial⟩ fun v51 => (kp ?_))
       refine RH.ot rfl rfl (OT.append (v := u2) (u := v51) (F := labelT) rfl El92 rfl (by decide) rfl rfl Rs.o (OneL.c (fun _ => rfl)) rfl (by first | omega | (simp <;> omega)) fun v52 => (kp ?_))
       refine RH.w rfl rfl (PV.field rfl Fo95_2 rfl) ?_
       refine RH.ot rfl rfl (OT.storeB (v := v52) (vs := [_]) (cs' := [_, _, _, _]) rfl Sz92 rfl rfl (Cl.s (v := v52) SlF.o) rfl (OneC.sl SlF.o OneC.nil) rfl rfl (kp ?_))
       refine RH.nil ?_
       exact ⟨rfl, v52, w50, pw50, ⟨by assumption, ew50, hw50⟩, trivial, ⟨(by kernel_rfl), (by kernel_rfl), (by kernel_rfl), (by kernel_rfl), (by kernel_rfl), (by kernel_rfl), (by kernel_rfl), trivial⟩, Cv.p⟩
      ·refine RH.ot rfl rfl (OT.pv (PV.load1 rfl Sc92 rfl (Rd.blk rfl)) (kp ?_))
       refine RH.ot rfl rfl (OT.append (v := u2) (u := v51) (F := labelT) rfl El92 rfl (by decide) rfl rfl Rs.o (OneL.c (fun _ => rfl)) rfl (by first | omega | (simp <;> omega)) fun v52 => (kp ?_))
       refine RH.w rfl rfl (PV.field rfl Fo95_2 rfl) ?_
       refine RH.ot rfl rfl (OT.storeB (v := v52) (vs := [_]) (cs' := [_, _, _, _]) rfl Sz92 rfl rfl (Cl.s (v := v52) SlF.o) rfl (OneC.sl SlF.o OneC.nil) rfl rfl (kp ?_))
       refine RH.nil ?_
       exact ⟨rfl, v52, w50, pw50, ⟨by assumption, ew50, hw50⟩, trivial, ⟨(by kernel_rfl), (by kernel_rfl), (by kernel_rfl), (by kernel_rfl), (by kernel_rfl), (by kernel_rfl), (by kernel_rfl), trivial⟩, Cv.p⟩
    rintro u3 x pn τ5 ⟨hpn, hdn, hxn⟩
    refine WP.region (RG.ml rfl (RG.p (PV.sub rfl rfl rfl (by omega)) (RG.mr rfl (RG.nil ?_))))
    have hd2 : dLbls bs (m2 - 1).toNat (ls ++ [x]) pn = dLbls bs w42.toNat [] pw42 := by
     rw [<- j3, show m2.toNat = (m2 - 1).toNat + 1 by omega, dLbls, hdn]
    refine ⟨rfl, m2 - 1, (ls ++ [x]), u3, pn, ⟨by omega, by simp; omega, hpn, hd2, fun j hj => ?_⟩, ⟨(by kernel_rfl), trivial⟩, ⟨(by kernel_rfl), (by kernel_rfl), (by kernel_rfl), (by kernel_rfl), (by kernel_rfl), (by kernel_rfl), trivial⟩, Cv.p, by omega⟩
    have hj : j < ls.length + 1 := by simpa using hj
    by_cases e : j = ls.length
    ·subst e; rw [gd_app_r]; omega
    ·rw [gd_app_l (by omega)]; exact j4 j (by omega)
   ·have h7 := odf h7
    rw [show m2.toNat = 0 by omega, dLbls] at j3
    refine WP.cv (Cv.nilS (e := 111) (F := instT)) ?_
    refine WP.exit (WP.seq (WP.sr (RG.p (PV.move rfl rfl) ?_)))
    refine RG.callF (vs := [_, _]) rfl rfl En57 rfl (CallT.exB (b := b) (nextP_s hcode (by assumption) (by omega) (fun w55 pw55 ew55 ow55 hw55 => ?_)))
    refine RG.mr rfl (RG.nil (WP.block ?_))
    refine WP.loop4 [0, 2, 3, 4, 5, 6] (fun (m3 : Int) (ns : List Inst) (u3 : Value) (pm3 : Pl) => (0 <= m3 ∧ m3 <= 3) ∧ (ns.length : Int) + m3 <= 3 ∧ OkP pm3 ∧ (if 0 < i then dInss bs i m3.toNat ns pm3 else (ns, pm3)) = (if 0 < i then dInss bs i w55.toNat [] pw55 else ([], pw55))) (fun (m3 : Int) (ns : List Inst) (u3 : Value) (pm3 : Pl) => [(9, vi m3)]) (fun (m3 : Int) (ns : List Inst) (u3 : Value) (pm3 : Pl) => osl 111 instT u3 ns :: blk b6 95 [.string nm, u1, u2, u3] :: osl 109 shapeT u1 ss :: osl 182 labelT u2 ls :: osl 95 cellT q (xs) :: bagS 109 shapeT (shs (xs)) :: bagS 182 labelT (lbs (xs)) :: bagS 111 instT (ins (xs)) :: blk b3 26 [q] :: blk b2 26 [.slice none 0 0] :: sPl b cv pm3 :: L) (fun (m3 : Int) (ns : List Inst) (u3 : Value) (pm3 : Pl) => m3.toNat) w55 [] (.slice none 0 0) pw55 ⟨by omega, by simp; omega, by assumption, rfl⟩ ⟨(by kernel_rfl), trivial⟩ Cv.p ?_
    rintro m3 ns u3 pm3 τ6 ⟨l0, l1, l2, l3⟩
    refine WP.seq (WP.sr (RG.ml rfl (RG.p (PV.gtr rfl rfl rfl) (RG.bl rfl ?_))))
    refine RG.g rfl (fun hp => (PV.mvI (.inl rfl) rfl)) ?_
    refine RG.g rfl (fun hp => (PV.gtr rfl (gt' hp) rfl)) ?_
    refine RG.p (PV.pickA rfl rfl (fun hq => gt' (geqT hq)) rfl) (RG.nil ?_)
    refine WP.cond rfl (fun h8 => ?_) fun h8 => ?_
    ·have h8 : 0 < i ∧ 0 < m3 := by simp at h8; omega
     refine WP.skip ?_
     refine WP.cut3 [0, 2, 3, 4, 5, 6, 9] (fun (u4 : Value) (x : Inst) (pn : Pl) => OkP pn ∧ dIns bs i pm3 = (x, pn)) (fun (u4 : Value) (x : Inst) (pn : Pl) => []) (fun (u4 : Value) (x : Inst) (pn : Pl) => osl 111 instT u4 (ns ++ [x]) :: blk b6 95 [.string nm, u1, u2, u4] :: osl 109 shapeT u1 ss :: osl 182 labelT u2 ls :: osl 95 cellT q (xs) :: bagS 109 shapeT (shs (xs)) :: bagS 182 labelT (lbs (xs)) :: bagS 111 instT (ins (xs)) :: blk b3 26 [q] :: blk b2 26 [.slice none 0 0] :: sPl b cv pn :: L) ?_ ?_
     refine WP.block ?_
     refine WP.regionHD [.s u3, .b b6, .b b] (.q 0 (.q 2 (.q 3 (.b 1 (.l 4 (.l 5 (.l 6 (.q 7 (.l 8 Sch.nil))))) 4 (.b 1 (.l 5 (.l 6 (.q 7 (.l 8 Sch.nil)))) 5 (.l 1 (.l 6 (.q 7 (.l 8 Sch.nil))))))))) (by kernel_rfl) (by kernel_rfl) (by kernel_rfl) rfl ?_
     refine RH.w rfl rfl (PV.field rfl Fo95_3 rfl) (RH.w rfl rfl (PV.move rfl rfl) (RH.w rfl rfl (PV.mvI (.inl rfl) rfl) ?_))
     ·refine RH.ot2 rfl rfl rfl rfl  (OT.pv (PV.load1 rfl Sc93 rfl (Rd.blk rfl)) (kp ?_)) (OT.callF (vs := [_, _]) rfl En165 rfl (CallT.exB (b := b) (dIns_s hcode (by omega) (by assumption) (fun w68 pw68 ew68 ow68 => (kp ?_)))))
      ·refine RH.ot rfl rfl (OT.callF (vs := [_, _]) rfl En165 rfl (CallT.exB (b := b) (dIns_s hcode (by omega) (by assumption) (fun w68 pw68 ew68 ow68 => (kp ?_)))))
       refine RH.ot rfl rfl (OT.bslice (F := instT) (els := [_]) rfl El93 rfl (by decide) rfl (by decide) ⟨rfl, (Cl.c rfl), trivial⟩ fun v69 => (kp ?_))
       refine RH.ot rfl rfl (OT.append (v := u3) (u := v69) (F := instT) rfl El93 rfl (by decide) rfl rfl Rs.o (OneL.c (fun _ => rfl)) rfl (by first | omega | (simp <;> omega)) fun v70 => (kp ?_))
       refine RH.w rfl rfl (PV.field rfl Fo95_3 rfl) ?_
       refine RH.ot rfl rfl (OT.storeB (v := v70) (vs := [_]) (cs' := [_, _, _, _]) rfl Sz93 rfl rfl (Cl.s (v := v70) SlF.o) rfl (OneC.sl SlF.o OneC.nil) rfl rfl (kp ?_))
       refine RH.nil ?_
       exact ⟨rfl, v70, w68, pw68, ⟨by assumption, ew68⟩, trivial, ⟨(by kernel_rfl), (by kernel_rfl), (by kernel_rfl), (by kernel_rfl), (by kernel_rfl), (by kernel_rfl), (by kernel_rfl), trivial⟩, Cv.p⟩
      ·refine RH.ot2 rfl rfl rfl rfl  (OT.pv (PV.load1 rfl Sc93 rfl (Rd.blk rfl)) (kp ?_)) (OT.bslice (F := instT) (els := [_]) rfl El93 rfl (by decide) rfl (by decide) ⟨rfl, (Cl.c rfl), trivial⟩ fun v69 => (kp ?_))
       ·refine RH.ot rfl rfl (OT.bslice (F := instT) (els := [_]) rfl El93 rfl (by decide) rfl (by decide) ⟨rfl, (Cl.c rfl), trivial⟩ fun v69 => (kp ?_))
        refine RH.ot rfl rfl (OT.append (v := u3) (u := v69) (F := instT) rfl El93 rfl (by decide) rfl rfl Rs.o (OneL.c (fun _ => rfl)) rfl (by first | omega | (simp <;> omega)) fun v70 => (kp ?_))
        refine RH.w rfl rfl (PV.field rfl Fo95_3 rfl) ?_
        refine RH.ot rfl rfl (OT.storeB (v := v70) (vs := [_]) (cs' := [_, _, _, _]) rfl Sz93 rfl rfl (Cl.s (v := v70) SlF.o) rfl (OneC.sl SlF.o OneC.nil) rfl rfl (kp ?_))
        refine RH.nil ?_
        exact ⟨rfl, v70, w68, pw68, ⟨by assumption, ew68⟩, trivial, ⟨(by kernel_rfl), (by kernel_rfl), (by kernel_rfl), (by kernel_rfl), (by kernel_rfl), (by kernel_rfl), (by kernel_rfl), trivial⟩, Cv.p⟩
       ·refine RH.ot rfl rfl (OT.pv (PV.load1 rfl Sc93 rfl (Rd.blk rfl)) (kp ?_))
        refine RH.ot rfl rfl (OT.append (v := u3) (u := v69) (F := instT) rfl El93 rfl (by decide) rfl rfl Rs.o (OneL.c (fun _ => rfl)) rfl (by first | omega | (simp <;> omega)) fun v70 => (kp ?_))
        refine RH.w rfl rfl (PV.field rfl Fo95_3 rfl) ?_
        refine RH.ot rfl rfl (OT.storeB (v := v70) (vs := [_]) (cs' := [_, _, _, _]) rfl Sz93 rfl rfl (Cl.s (v := v70) SlF.o) rfl (OneC.sl SlF.o OneC.nil) rfl rfl (kp ?_))
        refine RH.nil ?_
        exact ⟨rfl, v70, w68, pw68, ⟨by assumption, ew68⟩, trivial, ⟨(by kernel_rfl), (by kernel_rfl), (by kernel_rfl), (by kernel_rfl), (by kernel_rfl), (by kernel_rfl), (by kernel_rfl), trivial⟩, Cv.p⟩
     rintro u4 x pn τ7 ⟨hpn, hdn⟩
     refine WP.region (RG.ml rfl (RG.p (PV.sub rfl rfl rfl (by omega)) (RG.mr rfl (RG.nil ?_))))
     have hd2 : (if 0 < i then dInss bs i (m3 - 1).toNat (ns ++ [x]) pn else (ns ++ [x], pn)) = (if 0 < i then dInss bs i w55.toNat [] pw55 else ([], pw55)) := by
      rw [<- l3, if_pos h8.1, if_pos h8.1, show m3.toNat = (m3 - 1).toNat + 1 by omega, dInss, hdn]
     exact ⟨rfl, m3 - 1, (ns ++ [x]), u4, pn, ⟨by omega, by simp; omega, hpn, hd2⟩, ⟨(by kernel_rfl), trivial⟩, ⟨(by kernel_rfl), (by kernel_rfl), (by kernel_rfl), (by kernel_rfl), (by kernel_rfl), (by kernel_rfl), trivial⟩, Cv.p, by omega⟩
    ·have h8 : ¬ (0 < i ∧ 0 < m3) := by simp at h8; omega
     have l4 : (if 0 < i then dInss bs i w55.toNat [] pw55 else ([], pw55)) = (ns, pm3) := by
      rw [<- l3]
      by_cases c : 0 < i
      ·rw [if_pos c, show m3.toNat = 0 by omega, dInss]
      ·rw [if_neg c]
     obtain ⟨n0, e0, e1⟩ := hd1
     have hce : dCel bs i pp = (⟨nm, ss, ls, ns⟩, pm3) := by
      simp only [dCel, e0, ew29, <- g3, ew42, <- j3, ew55, l4, e1]
     have hst : dCels bs (1 + w12 - (i + 1)).toNat (i + 1) (erCls (xs ++ [⟨nm, ⟨u1, ss⟩, ⟨u2, ls⟩, ⟨u3, ns⟩⟩])) pm3 = dCels bs (1 + w12).toNat 0 [] pw12 := by
      rw [<- hd, show (1 + w12 - i).toNat = (1 + w12 - (i + 1)).toNat + 1 by omega, dCels, hce, erCls_app]; rfl
     refine WP.exit (WP.region (RG.p (PV.field rfl Fo26_0 rfl) (RG.p (PV.load1 rfl Sc24 rfl (Rd.blk rfl)) (RG.p (PV.loadW rfl Ag95 rfl rfl) ?_))))
     refine RG.ot rfl (OT.bslice (F := cellT) (els := [⟨nm, ⟨u1, ss⟩, ⟨u2, ls⟩, ⟨u3, ns⟩⟩]) rfl El24 rfl (by decide) rfl (by decide) ⟨rfl, (Cl.c rfl), trivial⟩ fun v75 => ?_)
     refine RG.ot rfl (OT.append (v := q) (u := v75) (F := cellT) rfl El24 rfl (by decide) rfl rfl Rs.o (OneL.one (OneC.val rfl (OneC.sl (SlF.o (v := u1)) (OneC.sl (SlF.o (v := u2)) (OneC.sl (SlF.o (v := u3)) OneC.nil))))) rfl (by first | omega | (simp <;> omega)) fun v76 => ?_)
     refine RG.p (PV.field rfl Fo26_0 rfl) ?_
     refine RG.ot rfl (OT.storeB (v := v76) (vs := [_]) (cs' := [_]) rfl Sz24 rfl rfl (Cl.s (v := v76) SlF.o) rfl (OneC.sl SlF.o OneC.nil) rfl rfl ?_)
     refine RG.nil (WP.region (RG.ml rfl (RG.p (PV.add rfl rfl rfl (by omega)) (RG.mr rfl (RG.nil ?_)))))
     exact ⟨rfl, i + 1, (xs ++ [⟨nm, ⟨u1, ss⟩, ⟨u2, ls⟩, ⟨u3, ns⟩⟩]), v76, pm3, ⟨by omega, by rw [List.length_append]; simp; omega, by rw [erCls_app]; exact h2.app hnm j4 g4 ⟨by simp only [erCl]; omega, by simp only [erCl]; omega, by simp only [erCl]; omega⟩, l2, hst⟩, ⟨(by kernel_rfl), trivial⟩, ⟨(by kernel_rfl), (by kernel_rfl), (by kernel_rfl), (by kernel_rfl), trivial⟩, ((Cv.p (C := osl 109 shapeT u1 ss :: osl 182 labelT u2 ls :: osl 111 instT u3 ns :: osl 95 cellT v76 (xs ++ [⟨nm, ⟨u1, ss⟩, ⟨u2, ls⟩, ⟨u3, ns⟩⟩]) :: bagS 109 shapeT (shs xs) :: bagS 182 labelT (lbs xs) :: bagS 111 instT (ins xs) :: blk b3 26 [v76] :: blk b2 26 [.slice none 0 0] :: sPl b cv pm3 :: L)).trans Cv.cellNew3), by omega⟩
 ·have h5 := odf h5
  rw [show (1 + w12 - i).toNat = 0 by omega, dCels] at hd
  have e : dLibF bs p = (erCls xs, pp) := by simp only [dLibF, ew12, <- hd]
  refine WP.exit (WP.sr (RG.p (PV.loadW rfl Ag26 rfl rfl) ?_))
  refine RG.ot rfl (OT.storeW (vs := [_]) rfl Sz26 rfl rfl (Cl.c rfl) rfl rfl (OneC.sl (SlF.o (v := q)) OneC.nil) ?_)
  refine RG.nil ?_
  exact WP.ret ⟨_, _, ResV.one rfl (RV1.cell rfl Ag26 rfl), Cv.p, k q xs pp e h3 h2 (by omega) (by omega)⟩
theorem dIdx_s {b : Nat} {cv : Value} {bs : List UInt8} {l : Lib} {p : Pl} (hcode : SL G byteT cv bs) (hp : OkP p) (h1 : Rs G L cellT l.cells.v l.cells.xs) (hb : l.cells.xs.length <= 8) (k : ∀ n p', dIdx bs (erCls l.cells.xs) p = (n, p') -> OkP p' -> R (vi n) G (sPl b cv p' :: L)) : CallT Tryz.prog 108 #[.pointer (some ⟨b, 0, none⟩), vT libT l] G (sPl b cv p :: L) R := by
 have hl3 : ([-1, (l.cells.xs.length : Int), 7] : List Int).length = 3 := rfl
 refine CallT.enter (args := _) Tryz.func108 rfl rfl (by kernel_rfl) rfl ?_
 refine WP.sr ?_
 refine RG.ot rfl (OT.box (cs := libT.enc l) rfl rfl rfl fun b3 => ?_)
 refine RG.mr rfl (RG.nil (WP.seq (WP.sr (RG.p (PV.move rfl rfl) ?_))))
 refine RG.callF (vs := [_, _]) rfl rfl En57 rfl (CallT.exB (b := b) (nextP_s hcode (by assumption) (by omega) (fun w6 pw6 ew6 ow6 hw6 => ?_)))
 refine RG.p (PV.eql rfl rfl rfl) (RG.nil ?_)
 refine WP.cond rfl (fun h2 => ?_) fun h2 => ?_
 ·have h2 := odt h2
  refine WP.cut2 [] (fun (n : Int) (p1 : Pl) => OkP p1 ∧ dIdx bs (erCls l.cells.xs) p = (n, p1)) (fun (n : Int) (p1 : Pl) => [(4, vi n)]) (fun (n : Int) (p1 : Pl) => blk b3 26 (libT.enc l) :: sPl b cv p1 :: L) ?_ ?_
  refine WP.regionHD [.b b] (.q 0 (.q 1 (.q 2 (.q 4 (.b 3 (.l 5 (.q 6 (.q 7 (.q 8 Sch.nil)))) 5 (.l 3 (.q 6 (.q 7 (.q 8 Sch.nil))))))))) (by kernel_rfl) (by kernel_rfl) (by kernel_rfl) rfl ?_
  refine RH.w rfl rfl (PV.field rfl Fo26_0 rfl) (RH.w rfl rfl (PV.load1 rfl Sc24 rfl (Rd.blk rfl)) (RH.w rfl rfl (PV.len rfl Tryz.underlying24 rfl (SlF.r h1)) (RH.w rfl rfl (PV.move rfl rfl) ?_)))
  ·refine RH.ot2 rfl rfl rfl rfl  (OT.bslice (F := intT) (els := [_, _, _]) rfl El45 rfl (by decide) rfl (by decide) ⟨rfl, (Cl.c rfl), ⟨rfl, (Cl.c rfl), ⟨rfl, (Cl.c rfl), trivial⟩⟩⟩ fun v11 => (kp ?_)) (OT.callF (vs := [_, _]) rfl En57 rfl (CallT.exB (b := b) (nextP_s hcode (by assumption) (by omega) (fun w13 pw13 ew13 ow13 hw13 => (kp ?_)))))
   ·refine RH.up1 ?_
    refine RH.ot rfl rfl (OT.callF (vs := [_, _]) rfl En57 rfl (CallT.exB (b := b) (nextP_s hcode (by assumption) (by omega) (fun w13 pw13 ew13 ow13 hw13 => (kp ?_)))))
    refine RH.w rfl rfl (PV.idxS (j := w13.toNat) (v := v11) rfl Is45 rfl SlF.o rfl (by omega) (by omega)) (RH.w rfl rfl (PV.loadE1 rfl Sc2 rfl rfl (El.o (getG (by omega))) rfl) (RH.w rfl rfl (PV.mvI (.inr rfl) rfl) (RH.nil ?_)))
    exact ⟨rfl, (gd [-1, (l.cells.xs.length : Int), 7] w13.toNat), pw13, ⟨by assumption, by simp only [dIdx, ew6, h2, if_true, ew13, erCls_len]⟩, ⟨rfl, trivial⟩, trivial, Cv.p⟩
   ·refine RH.ot rfl rfl (OT.bslice (F := intT) (els := [_, _, _]) rfl El45 rfl (by decide) rfl (by decide) ⟨rfl, (Cl.c rfl), ⟨rfl, (Cl.c rfl), ⟨rfl, (Cl.c rfl), trivial⟩⟩⟩ fun v11 => (kp ?_))
    refine RH.up1 ?_
    refine RH.w rfl rfl (PV.idxS (j := w13.toNat) (v := v11) rfl Is45 rfl SlF.o rfl (by omega) (by omega)) (RH.w rfl rfl (PV.loadE1 rfl Sc2 rfl rfl (El.o (getG (by omega))) rfl) (RH.w rfl rfl (PV.mvI (.inr rfl) rfl) (RH.nil ?_)))
    exact ⟨rfl, (gd [-1, (l.cells.xs.length : Int), 7] w13.toNat), pw13, ⟨by assumption, by simp only [dIdx, ew6, h2, if_true, ew13, erCls_len]⟩, ⟨rfl, trivial⟩, trivial, Cv.p⟩
  rintro n p1 τ1 ⟨hp1, hd1⟩
  exact WP.ret ⟨_, _, rv rfl rfl, Cv.p, k n p1 hd1 hp1⟩
 ·have h2 := odf h2
  refine WP.skip (WP.sr (RG.p (PV.move rfl rfl) (RG.p (PV.field rfl Fo26_0 rfl) (RG.p (PV.load1 rfl Sc24 rfl (Rd.blk rfl)) (RG.p (PV.len rfl Tryz.underlying24 rfl (SlF.r h1)) ?_)))))
  refine RG.callF (vs := [_, _]) rfl rfl En57 rfl (CallT.exB (b := b) (nextP_s hcode (by assumption) (by omega) (fun w20 pw20 ew20 ow20 hw20 => ?_)))
  refine RG.mr rfl (RG.nil ?_)
  exact WP.ret ⟨_, _, rv rfl rfl, Cv.p, k w20 pw20 (by simp only [dIdx, ew6, h2, if_false, erCls_len, ew20]) (by assumption)⟩
theorem lay0_yes {xs : List Cell} (h0 : 0 < xs.length) (h1 : 0 < (gd xs 0).shapes.xs.length) : lay0 (erCls xs) = (gd (gd xs 0).shapes.xs 0).layer := by
 cases xs with
 | nil => simp at h0
 | cons c r =>
  obtain ⟨nm, ⟨v, ss⟩, ls, is⟩ := c
  cases ss with
  | nil => simp [gd] at h1
  | cons s t => simp [erCls, erCl, lay0, gd]
theorem lay0_no {xs : List Cell} (h1 : ¬ (0 < (gd xs 0).shapes.xs.length)) : lay0 (erCls xs) = 0 := by
 cases xs with
 | nil => rfl
 | cons c r =>
  obtain ⟨nm, ⟨v, ss⟩, ls, is⟩ := c
  cases ss with
  | nil => rfl
  | cons s t => simp [gd] at h1
theorem PV.remT {P : Program} {o : Oper} {σ : Nat -> Value} {x y : Operand} {T T' : TypeId} {a b : Int} (ho : o.op = .binOp .rem T x y T') (hx : ev σ x = .int .i64 a) (hy : ev σ y = .int .i64 b) (h1 : 0 < b) (hr : b <= 9223372036854775807) : PV P o σ G L (.int .i64 (a.tmod b)) := by
 intro w _
 have e1 : a.tmod b < b := Int.tmod_lt_of_pos _ h1
 have e2 : -b < a.tmod b := by
  have := Int.natAbs_tmod a b
  have h3 : a.natAbs % b.natAbs < b.natAbs := Nat.mod_lt _ (by omega)
  omega
 simp [execOp, ho, hx, hy, eqGuard, binOp, Op.intDiv, show ¬ b = 0 by omega]
theorem dRu_s {b : Nat} {cv : Value} {bs : List UInt8} {l : Lib} {p : Pl} (hcode : SL G byteT cv bs) (hp : OkP p) (hL : RLib G L l.cells.v l.cells.xs) (hx : 1 <= l.cells.xs.length) (hlb : -2 <= lay0 (erCls l.cells.xs) ∧ lay0 (erCls l.cells.xs) <= 9) (k : ∀ r p', dRu bs (erCls l.cells.xs) p = (r, p') -> OkP p' -> R (vT ruleT r) G (sPl b cv p' :: L)) : CallT Tryz.prog 37 #[.pointer (some ⟨b, 0, none⟩), vT libT l] G (sPl b cv p :: L) R := by
 have hsl := hL.sa (i := 0) (by omega)
 refine CallT.enter (args := _) Tryz.func37 rfl rfl (by kernel_rfl) rfl ?_
 refine WP.sr ?_
 refine RG.ot rfl (OT.box (cs := libT.enc l) rfl rfl rfl fun b3 => ?_)
 refine RG.ot rfl (OT.alloc rfl Zr42 fun b4 => ?_)
 refine RG.nil (WP.sr (RG.p (PV.move rfl rfl) ?_))
 refine RG.callF (vs := [_, _]) rfl rfl En57 rfl (CallT.exB (b := b) (nextP_s hcode (by assumption) (by omega) (fun w7 pw7 ew7 ow7 hw7 => ?_)))
 refine RG.p (PV.move rfl rfl) ?_
 refine RG.callF (vs := [_, _]) rfl rfl En57 rfl (CallT.exB (b := b) (nextP_s hcode (by assumption) (by omega) (fun w9 pw9 ew9 ow9 hw9 => ?_)))
 refine RG.p (PV.add rfl rfl rfl (by omega)) (RG.p (PV.build (vs := [(0, [vi _]), (3, [vi _])]) (out := [_, _, _, _, _]) rfl Zr42 Pl42 ⟨rfl, (Cl.c rfl), ⟨rfl, (Cl.c rfl), trivial⟩⟩ rfl) ?_)
 refine RG.ot rfl (OT.alloc rfl Zr42 fun b5 => ?_)
 refine RG.ot rfl (OT.storeW (vs := [vi _, vi _, vi _, vi _, vi _]) rfl Sz42 rfl rfl (Cl.c rfl) rfl rfl (OneC.c rfl) ?_)
 refine RG.nil ?_
 refine WP.cut1 [0, 4, 5] (fun (x : Rule) => x = ⟨w7, lay0 (erCls l.cells.xs), 0, w9 + 1, 0⟩) (fun (x : Rule) => []) (fun (x : Rule) => blk b5 42 (ruleT.enc x) :: sPl b cv pw9 :: blk b3 26 (libT.enc l) :: blk b4 42 [vi 0, vi 0, vi 0, vi 0, vi 0] :: L) ?_ ?_
 refine WP.sr (RG.p (PV.field rfl Fo26_0 rfl) (RG.p (PV.load1 rfl Sc24 rfl (Rd.blk rfl)) (RG.p (PV.len rfl Tryz.underlying24 rfl (SlF.r hL.c)) (RG.p (PV.gtr rfl rfl rfl) (RG.bl rfl ?_)))))
 refine RG.spl (t := 16) rfl (fun g1 => ?_) (fun g1 => ?_)
 ·refine RG.take rfl rfl rfl g1 ?_
  refine RG.p (PV.field rfl Fo26_0 rfl) ?_
  refine RG.take rfl rfl rfl g1 ?_
  refine RG.p (PV.load1 rfl Sc24 rfl (Rd.blk rfl)) ?_
  refine RG.take rfl rfl rfl g1 ?_
  refine RG.p (PV.idxS (j := 0) rfl Is24 rfl (SlF.r hL.c) rfl (by omega) (by omega)) ?_
  refine RG.take rfl rfl rfl g1 ?_
  refine RG.p (PV.field rfl Fo95_1 rfl) ?_
  refine RG.take rfl rfl rfl g1 ?_
  refine RG.p (PV.loadF rfl Sc66 rfl rfl (El.r hL.c (getG (by omega))) rfl) ?_
  refine RG.take rfl rfl rfl g1 ?_
  refine RG.p (PV.len rfl Tryz.underlying66 rfl (SlF.r hsl)) ?_
  refine RG.take rfl rfl rfl g1 ?_
  refine RG.p (PV.gtr rfl rfl rfl) (RG.p (PV.pickT rfl rfl g1 rfl) (RG.nil ?_))
  refine WP.cond rfl (fun h2 => ?_) fun h2 => ?_
  ·have h2 := odt h2
   have e0 := lay0_yes (xs := l.cells.xs) (by omega) (by omega)
   refine WP.region (RG.p (PV.field rfl Fo26_0 rfl) (RG.p (PV.load1 rfl Sc24 rfl (Rd.blk rfl)) (RG.p (PV.idxS (j := 0) rfl Is24 rfl (SlF.r hL.c) rfl (by omega) (by omega)) (RG.p (PV.field rfl Fo95_1 rfl) (RG.p (PV.loadF rfl Sc66 rfl rfl (El.r hL.c (getG (by omega))) rfl) (RG.p (PV.idxS (j := 0) rfl Is66 rfl (SlF.r hsl) rfl (by omega) (by omega)) (RG.p (PV.field rfl Fo109_0 rfl) (RG.p (PV.loadF rfl Sc2 rfl rfl (El.r hsl (getG (by omega))) rfl) (RG.p (PV.field rfl Fo42_1 rfl) ?_)))))))))
   refine RG.ot rfl (OT.storeB (vs := [vi _]) (cs' := [_, _, _, _, _]) rfl Sz2 rfl rfl (Cl.c rfl) rfl (OneC.c rfl) rfl rfl ?_)
   refine RG.nil ?_
   exact ⟨rfl, ⟨w7, (gd (gd l.cells.xs 0).shapes.xs 0).layer, 0, w9 + 1, 0⟩, (by rw [e0]), trivial, ⟨rfl, rfl, rfl, trivial⟩, Cv.p⟩
  ·have e0 := lay0_no (xs := l.cells.xs) (by simpa using h2)
   refine WP.skip ?_
   exact ⟨rfl, ⟨w7, 0, 0, w9 + 1, 0⟩, (by rw [e0]), trivial, ⟨rfl, rfl, rfl, trivial⟩, Cv.p⟩
 ·exfalso
  have := odf g1
  omega
 rintro x τ1 hx1
 refine WP.cut1 [0, 4, 5] (fun (y : Rule) => y = ⟨w7, lay0 (erCls l.cells.xs), (if paired w7 = true then Int.tmod (lay0 (erCls l.cells.xs) + 1) 8 else 0), w9 + 1, 0⟩) (fun (y : Rule) => []) (fun (y : Rule) => blk b5 42 (ruleT.enc y) :: sPl b cv pw9 :: blk b3 26 (libT.enc l) :: blk b4 42 [vi 0, vi 0, vi 0, vi 0, vi 0] :: L) ?_ ?_
 refine WP.sr (RG.p (PV.loadW rfl Ag42 rfl rfl) ?_)
 refine RG.callF (vs := [_]) rfl rfl En75 rfl (l20Paired_s (r := x) ?_)
 refine RG.nil ?_
 ·refine WP.cond rfl (fun h3 => ?_) fun h3 => ?_
  ·have h3 : paired w7 = true := by rw [hx1] at h3; exact h3
   have hlx : -2 <= x.layer ∧ x.layer <= 9 := by rw [hx1]; exact hlb
   refine WP.region (RG.p (PV.field rfl Fo42_1 rfl) (RG.p (PV.load1 rfl Sc2 rfl (Rd.blk rfl)) (RG.p (PV.add rfl rfl rfl (by omega)) (RG.p (PV.remT rfl rfl rfl (by decide) (by decide)) (RG.p (PV.field rfl Fo42_2 rfl) ?_)))))
   refine RG.ot rfl (OT.storeB (vs := [vi _]) (cs' := [_, _, _, _, _]) rfl Sz2 rfl rfl (Cl.c rfl) rfl (OneC.c rfl) rfl rfl ?_)
   refine RG.nil ?_
   exact ⟨rfl, ⟨x.kind, x.layer, Int.tmod (x.layer + 1) 8, x.value, x.percent⟩, (by rw [hx1, if_pos h3]), trivial, ⟨rfl, rfl, rfl, trivial⟩, Cv.p⟩
  ·have h3 : ¬ paired w7 = true := by rw [hx1] at h3; simp at h3; simp [h3]
   refine WP.skip ?_
   exact ⟨rfl, x, (by rw [if_neg h3]; exact hx1), trivial, ⟨rfl, rfl, rfl, trivial⟩, Cv.p⟩
 rintro y τ2 hy1
 refine WP.cut2 [0, 4, 5] (fun (z : Rule) (p3 : Pl) => OkP p3 ∧ p3 = (nx bs pw9 12).2 ∧ z = ⟨if (nx bs pw9 12).1 = 0 then 4 else y.kind, y.layer, if (nx bs pw9 12).1 = 0 then 0 else y.other, y.value, y.percent⟩) (fun (z : Rule) (p3 : Pl) => []) (fun (z : Rule) (p3 : Pl) => blk b5 42 (ruleT.enc z) :: sPl b cv p3 :: blk b3 26 (libT.enc l) :: blk b4 42 [vi 0, vi 0, vi 0, vi 0, vi 0] :: L) ?_ ?_
 refine WP.sr (RG.p (PV.move rfl rfl) ?_)
 refine RG.callF (vs := [_, _]) rfl rfl En57 rfl (CallT.exB (b := b) (nextP_s hcode (by assumption) (by omega) (fun w42 pw42 ew42 ow42 hw42 => ?_)))
 refine RG.p (PV.eql rfl rfl rfl) (RG.nil ?_)
 ·refine WP.cond rfl (fun h4 => ?_) fun h4 => ?_
  ·have h4 := odt h4
   refine WP.sr (RG.p (PV.field rfl Fo42_0 rfl) ?_)
   refine RG.ot rfl (OT.storeB (vs := [vi _]) (cs' := [_, _, _, _, _]) rfl Sz2 rfl rfl (Cl.c rfl) rfl (OneC.c rfl) rfl rfl ?_)
   refine RG.nil (WP.region (RG.p (PV.field rfl Fo42_2 rfl) ?_))
   refine RG.ot rfl (OT.storeB (vs := [vi _]) (cs' := [_, _, _, _, _]) rfl Sz2 rfl rfl (Cl.c rfl) rfl (OneC.c rfl) rfl rfl ?_)
   refine RG.nil ?_
   exact ⟨rfl, ⟨4, y.layer, 0, y.value, y.percent⟩, pw42, ⟨by assumption, by rw [ew42], by rw [ew42]; simp only [h4, if_true]⟩, trivial, ⟨rfl, rfl, rfl, trivial⟩, Cv.p⟩
  ·have h4 := odf h4
   refine WP.skip ?_
   exact ⟨rfl, y, pw42, ⟨by assumption, by rw [ew42], by rw [ew42]; simp only [h4, if_false]⟩, trivial, ⟨rfl, rfl, rfl, trivial⟩, Cv.p⟩
 rintro z p3 τ3 ⟨hz0, hz1, hz2⟩
 refine WP.cut2 [4, 5] (fun (u : Rule) (p4 : Pl) => OkP p4 ∧ p4 = (nx bs p3 14).2 ∧ u = ⟨z.kind, z.layer, z.other, if (nx bs p3 14).1 = 0 then 0 else z.value, z.percent⟩) (fun (u : Rule) (p4 : Pl) => []) (fun (u : Rule) (p4 : Pl) => blk b5 42 (ruleT.enc u) :: sPl b cv p4 :: blk b3 26 (libT.enc l) :: blk b4 42 [vi 0, vi 0, vi 0, vi 0, vi 0] :: L) ?_ ?_
 refine WP.sr (RG.p (PV.move rfl rfl) ?_)
 refine RG.callF (vs := [_, _]) rfl rfl En57 rfl (CallT.exB (b := b) (nextP_s hcode (by assumption) (by omega) (fun w47 pw47 ew47 ow47 hw47 => ?_)))
 refine RG.p (PV.eql rfl rfl rfl) (RG.nil ?_)
 ·refine WP.cond rfl (fun h5 => ?_) fun h5 => ?_
  ·have h5 := odt h5
   refine WP.region (RG.p (PV.field rfl Fo42_3 rfl) ?_)
   refine RG.ot rfl (OT.storeB (vs := [vi _]) (cs' := [_, _, _, _, _]) rfl Sz2 rfl rfl (Cl.c rfl) rfl (OneC.c rfl) rfl rfl ?_)
   refine RG.nil ?_
   exact ⟨rfl, ⟨z.kind, z.layer, z.other, 0, z.percent⟩, pw47, ⟨by assumption, by rw [ew47], by rw [ew47]; simp only [h5, if_true]⟩, trivial, ⟨rfl, rfl, trivial⟩, Cv.p⟩
  ·have h5 := odf h5
   refine WP.skip ?_
   exact ⟨rfl, z, pw47, ⟨by assumption, by rw [ew47], by rw [ew47]; simp only [h5, if_false]⟩, trivial, ⟨rfl, rfl, trivial⟩, Cv.p⟩
 rintro u p4 τ4 ⟨hu0, hu1, hu2⟩
 refine WP.sr (RG.p (PV.loadW rfl Ag42 rfl rfl) ?_)
 refine RG.ot rfl (OT.storeW (vs := [vi _, vi _, vi _, vi _, vi _]) rfl Sz42 rfl rfl (Cl.c rfl) rfl rfl (OneC.c rfl) ?_)
 refine RG.nil ?_
 refine WP.ret ?_
 have hfin : dRu bs (erCls l.cells.xs) p = (u, p4) := by
  rw [hu2, hu1, hz2, hz1, hy1]
  simp only [dRu, ew7, ew9]
 exact ⟨_, _, ResV.one rfl (RV1.cell rfl Ag42 rfl), Cv.p, k u p4 hfin hu0⟩
def celB (S : List Bool) (x y : Int) : Bool := (decide (-40 <= x ∧ x < 40) && decide (-40 <= y ∧ y < 40)) && gd S ((y + 40) * 80 + x + 40).toNat
def cv (S : List Bool) (ver : Bool) (l k : Int) : Bool := celB S (bif ver then l else k) (bif ver then k else l)
def lineR (ver : Bool) (l lo hi : Int) : Rect := bif ver then ⟨l, lo, l + 1, hi⟩ else ⟨lo, l, hi, l + 1⟩
theorem celB_rng {S : List Bool} {x y : Int} (h : celB S x y = true) : (-40 <= x ∧ x < 40) ∧ (-40 <= y ∧ y < 40) := by
 simp only [celB, Bool.and_eq_true, decide_eq_true_eq] at h; exact h.1
theorem cv_rng {S : List Bool} {ver : Bool} {l k : Int} (h : cv S ver l k = true) : (-40 <= l ∧ l < 40) ∧ (-40 <= k ∧ k < 40) := by
 have := celB_rng h
 cases ver
 ·exact ⟨this.2, this.1⟩
 ·exact this
structure isRun (S : List Bool) (ver : Bool) (l k lo hi : Int) : Prop where
  lk : lo <= k ∧ k < hi
  rng : (-40 <= lo ∧ hi <= 40) ∧ (-40 <= l ∧ l < 40)
  all : ∀ u, lo <= u -> u < hi -> cv S ver l u = true
  low : cv S ver l (lo - 1) = false
  high : cv S ver l hi = false
theorem l17Cel_s {v : Value} {S : List Bool} {x y : Int} (h1 : Rs G L boolT v S) (hS : S.length = 6400) (k : R (.bool (celB S x y)) G L) : CallT Tryz.prog 256 #[v, vi x, vi y] G L R := l17Cell_s h1 hS k
theorem run_s {v : Value} {S : List Bool} {ver : Bool} {l k0 : Int} (h1 : Rs G L boolT v S) (hS : S.length = 6400) (hc : cv S ver l k0 = true) (k : ∀ lo hi, isRun S ver l k0 lo hi -> R (vrect (lineR ver l lo hi)) G L) : CallT Tryz.prog 257 #[v, vi (bif ver then l else k0), vi (bif ver then k0 else l), .bool ver] G L R := by
 have hr := cv_rng hc
 cases ver with
 | true =>
  have q1 : (bif true then l else k0) = l := rfl
  have q2 : (bif true then k0 else l) = k0 := rfl
  refine CallT.enter (args := _) Tryz.func257 rfl rfl (by kernel_rfl) rfl ?_
  refine WP.sr ?_
  refine RG.ot rfl (OT.alloc rfl Zr101 fun b8 => ?_)
  refine RG.nil (WP.sr (RG.ml rfl (RG.ml rfl (RG.p (PV.add rfl rfl rfl (by omega)) (RG.mr rfl (RG.mr rfl (RG.nil (WP.seq (WP.sr (RG.bl rfl (RG.nil ?_)))))))))))
  refine WP.cond rfl (fun h2 => ?_) fun h2 => ?_
  ·refine WP.seq ?_
   refine WP.region (RG.ml rfl (RG.ml rfl (RG.p (PV.add rfl rfl rfl (by omega)) (RG.mr rfl (RG.mr rfl (RG.nil (WP.seq (WP.block ?_))))))))
   refine WP.loop1 [0, 1, 8, 10] (fun (lo : Int) => (-40 <= lo ∧ lo <= k0) ∧ ∀ u, lo <= u -> u <= k0 -> cv S true l u = true) (fun (lo : Int) => [(9, vi lo)]) (fun (lo : Int) => blk b8 101 [vi 0, vi 0, vi 0, vi 0] :: L) (fun (lo : Int) => (lo + 41).toNat) k0 ⟨by omega, fun u h3 h4 => by rw [show u = k0 by omega]; exact hc⟩ ⟨rfl, trivial⟩ Cv.p ?_
   rintro lo τ ⟨hlo, ha⟩
   refine WP.seq (WP.sr (RG.p (PV.move (v := v) rfl rfl) (RG.ml rfl (RG.ml rfl (RG.p (PV.sub rfl rfl rfl (by omega)) ?_)))))
   refine RG.callF (vs := [v, _, _]) rfl rfl En256 rfl (l17Cel_s (Rs.up h1) hS ?_)
   refine RG.nil ?_
   refine WP.cond rfl (fun h3 => ?_) fun h3 => ?_
   ·have h4 : cv S true l (lo - 1) = true := h3
    have h5 := cv_rng h4
    have ha' : ∀ u, lo - 1 <= u -> u <= k0 -> cv S true l u = true := fun u g1 g2 => by
     by_cases c : u = lo - 1
     ·rw [c]; exact h4
     ·exact ha u (by omega) g2
    refine WP.skip (WP.block (WP.region (RG.ml rfl (RG.p (PV.sub rfl rfl rfl (by omega)) (RG.mr rfl (RG.nil ?_))))))
    exact ⟨rfl, lo - 1, ⟨by omega, ha'⟩, ⟨rfl, trivial⟩, ⟨rfl, rfl, rfl, rfl, trivial⟩, Cv.p, by omega⟩
   ·have h4 : cv S true l (lo - 1) = false := h3
    refine WP.exit (WP.seq (WP.block ?_))
    refine WP.loop1 [0, 1, 8, 9] (fun (hi : Int) => (k0 < hi ∧ hi <= 40) ∧ ∀ u, k0 <= u -> u < hi -> cv S true l u = true) (fun (hi : Int) => [(10, vi hi)]) (fun (hi : Int) => blk b8 101 [vi 0, vi 0, vi 0, vi 0] :: L) (fun (hi : Int) => (41 - hi).toNat) (k0 + 1) ⟨by omega, fun u h3 h4 => by rw [show u = k0 by omega]; exact hc⟩ ⟨rfl, trivial⟩ Cv.p ?_
    rintro hi τ1 ⟨hhi, hb⟩
    refine WP.seq (WP.sr (RG.p (PV.move (v := v) rfl rfl) (RG.ml rfl (RG.ml rfl ?_))))
    refine RG.callF (vs := [v, _, _]) rfl rfl En256 rfl (l17Cel_s (Rs.up h1) hS ?_)
    refine RG.nil ?_
    refine WP.cond rfl (fun h5 => ?_) fun h5 => ?_
    ·have h6 : cv S true l hi = true := h5
     have h7 := cv_rng h6
     have hb' : ∀ u, k0 <= u -> u < hi + 1 -> cv S true l u = true := fun u g1 g2 => by
      by_cases c : u = hi
      ·rw [c]; exact h6
      ·exact hb u g1 (by omega)
     refine WP.skip (WP.block (WP.region (RG.ml rfl (RG.p (PV.add rfl rfl rfl (by omega)) (RG.mr rfl (RG.nil ?_))))))
     exact ⟨rfl, hi + 1, ⟨by omega, hb'⟩, ⟨rfl, trivial⟩, ⟨rfl, rfl, rfl, rfl, trivial⟩, Cv.p, by omega⟩
    ·have h6 : cv S true l hi = false := h5
     have hrun : isRun S true l k0 lo hi := ⟨by omega, by omega, fun u g1 g2 => by
      by_cases c : u <= k0
      ·exact ha u g1 c
      ·exact hb u (by omega) g2, h4, h6⟩
     refine WP.exit (WP.sr (RG.ml rfl (RG.ml rfl (RG.ml rfl (RG.p (PV.add rfl rfl rfl (by omega)) (RG.ml rfl (RG.p (PV.build (vs := [(0, [vi _]), (1, [vi _]), (2, [vi _]), (3, [vi _])]) (out := [_, _, _, _]) rfl Zr101 Pl101 ⟨rfl, (Cl.c rfl), ⟨rfl, (Cl.c rfl), ⟨rfl, (Cl.c rfl), ⟨rfl, (Cl.c rfl), trivial⟩⟩⟩⟩ rfl) ?_)))))))
     refine RG.ot rfl (OT.storeW (vs := [vi _, vi _, vi _, vi _]) rfl Sz101 rfl rfl (Cl.c rfl) rfl rfl (OneC.c rfl) ?_)
     refine RG.nil ?_
     exact WP.ret ⟨_, _, ResV.one rfl (RV1.cell rfl Ag101 rfl), Cv.p, k lo hi hrun⟩
  ·cases h2
 | false =>
  have q1 : (bif false then l else k0) = k0 := rfl
  have q2 : (bif false then k0 else l) = l := rfl
  refine CallT.enter (args := _) Tryz.func257 rfl rfl (by kernel_rfl) rfl ?_
  refine WP.sr ?_
  refine RG.ot rfl (OT.alloc rfl Zr101 fun b8 => ?_)
  refine RG.nil (WP.sr (RG.ml rfl (RG.ml rfl (RG.p (PV.add rfl rfl rfl (by omega)) (RG.mr rfl (RG.mr rfl (RG.nil (WP.seq (WP.sr (RG.bl rfl (RG.nil ?_)))))))))))
  refine WP.cond rfl (fun h2 => ?_) fun h2 => ?_
  ·cases h2
  ·refine WP.skip ?_
   refine WP.seq (WP.block ?_)
   refine WP.loop1 [0, 2, 8, 10] (fun (lo : Int) => (-40 <= lo ∧ lo <= k0) ∧ ∀ u, lo <= u -> u <= k0 -> cv S false l u = true) (fun (lo : Int) => [(9, vi lo)]) (fun (lo : Int) => blk b8 101 [vi 0, vi 0, vi 0, vi 0] :: L) (fun (lo : Int) => (lo + 41).toNat) k0 ⟨by omega, fun u h3 h4 => by rw [show u = k0 by omega]; exact hc⟩ ⟨rfl, trivial⟩ Cv.p ?_
   rintro lo τ ⟨hlo, ha⟩
   refine WP.seq (WP.sr (RG.p (PV.move (v := v) rfl rfl) (RG.ml rfl (RG.p (PV.sub rfl rfl rfl (by omega)) (RG.ml rfl ?_)))))
   refine RG.callF (vs := [v, _, _]) rfl rfl En256 rfl (l17Cel_s (Rs.up h1) hS ?_)
   refine RG.nil ?_
   refine WP.cond rfl (fun h3 => ?_) fun h3 => ?_
   ·have h4 : cv S false l (lo - 1) = true := h3
    have h5 := cv_rng h4
    have ha' : ∀ u, lo - 1 <= u -> u <= k0 -> cv S false l u = true := fun u g1 g2 => by
     by_cases c : u = lo - 1
     ·rw [c]; exact h4
     ·exact ha u (by omega) g2
    refine WP.skip (WP.block (WP.region (RG.ml rfl (RG.p (PV.sub rfl rfl rfl (by omega)) (RG.mr rfl (RG.nil ?_))))))
    exact ⟨rfl, lo - 1, ⟨by omega, ha'⟩, ⟨rfl, trivial⟩, ⟨rfl, rfl, rfl, rfl, trivial⟩, Cv.p, by omega⟩
   ·have h4 : cv S false l (lo - 1) = false := h3
    refine WP.exit (WP.seq (WP.block ?_))
    refine WP.loop1 [0, 2, 8, 9] (fun (hi : Int) => (k0 < hi ∧ hi <= 40) ∧ ∀ u, k0 <= u -> u < hi -> cv S false l u = true) (fun (hi : Int) => [(10, vi hi)]) (fun (hi : Int) => blk b8 101 [vi 0, vi 0, vi 0, vi 0] :: L) (fun (hi : Int) => (41 - hi).toNat) (k0 + 1) ⟨by omega, fun u h3 h4 => by rw [show u = k0 by omega]; exact hc⟩ ⟨rfl, trivial⟩ Cv.p ?_
    rintro hi τ1 ⟨hhi, hb⟩
    refine WP.seq (WP.sr (RG.p (PV.move (v := v) rfl rfl) (RG.ml rfl (RG.ml rfl ?_))))
    refine RG.callF (vs := [v, _, _]) rfl rfl En256 rfl (l17Cel_s (Rs.up h1) hS ?_)
    refine RG.nil ?_
    refine WP.cond rfl (fun h5 => ?_) fun h5 => ?_
    ·have h6 : cv S false l hi = true := h5
     have h7 := cv_rng h6
     have hb' : ∀ u, k0 <= u -> u < hi + 1 -> cv S false l u = true := fun u g1 g2 => by
      by_cases c : u = hi
      ·rw [c]; exact h6
      ·exact hb u g1 (by omega)
     refine WP.skip (WP.block (WP.region (RG.ml rfl (RG.p (PV.add rfl rfl rfl (by omega)) (RG.mr rfl (RG.nil ?_))))))
     exact ⟨rfl, hi + 1, ⟨by omega, hb'⟩, ⟨rfl, trivial⟩, ⟨rfl, rfl, rfl, rfl, trivial⟩, Cv.p, by omega⟩
    ·have h6 : cv S false l hi = false := h5
     have hrun : isRun S false l k0 lo hi := ⟨by omega, by omega, fun u g1 g2 => by
      by_cases c : u <= k0
      ·exact ha u g1 c
      ·exact hb u (by omega) g2, h4, h6⟩
     refine WP.exit (WP.sr (RG.ml rfl (RG.ml rfl (RG.ml rfl (RG.ml rfl (RG.p (PV.add rfl rfl rfl (by omega)) (RG.p (PV.build (vs := [(0, [vi _]), (1, [vi _]), (2, [vi _]), (3, [vi _])]) (out := [_, _, _, _]) rfl Zr101 Pl101 ⟨rfl, (Cl.c rfl), ⟨rfl, (Cl.c rfl), ⟨rfl, (Cl.c rfl), ⟨rfl, (Cl.c rfl), trivial⟩⟩⟩⟩ rfl) ?_)))))))
     refine RG.ot rfl (OT.storeW (vs := [vi _, vi _, vi _, vi _]) rfl Sz101 rfl rfl (Cl.c rfl) rfl rfl (OneC.c rfl) ?_)
     refine RG.nil ?_
     exact WP.ret ⟨_, _, ResV.one rfl (RV1.cell rfl Ag101 rfl), Cv.p, k lo hi hrun⟩
structure RunsOf (S : List Bool) (ver : Bool) (out : List Rect) : Prop where
  len : out.length <= 6400
  run : ∀ r ∈ out, ∃ l k lo hi, isRun S ver l k lo hi ∧ r = lineR ver l lo hi
  all : ∀ l k, cv S ver l k = true -> ∃ lo hi, isRun S ver l k lo hi ∧ lineR ver l lo hi ∈ out
theorem run_start {S : List Bool} {ver : Bool} {l : Int} : ∀ (n : Nat) (k : Int), (k + 41).toNat = n -> cv S ver l k = true -> ∃ s, s <= k ∧ cv S ver l (s - 1) = false ∧ ∀ u, s <= u -> u <= k -> cv S ver l u = true := by
 intro n
 induction n with
 | zero => intro k hk h; have := cv_rng h; omega
 | succ n ih =>
  intro k hk h
  have hr := cv_rng h
  cases hb : cv S ver l (k - 1) with
  | false => exact ⟨k, Int.le_refl _, hb, fun u h1 h2 => by rw [show u = k by omega]; exact h⟩
  | true =>
   obtain ⟨s, h1, h2, h3⟩ := ih (k - 1) (by omega) hb
   refine ⟨s, by omega, h2, fun u g1 g2 => ?_⟩
   by_cases c : u = k
   ·rw [c]; exact h
   ·exact h3 u g1 (by omega)
theorem isRun.mv {S : List Bool} {ver : Bool} {l s k lo hi : Int} (h : isRun S ver l s lo hi) (h1 : s <= k) (h2 : ∀ u, s <= u -> u <= k -> cv S ver l u = true) : isRun S ver l k lo hi := by
 refine ⟨⟨by have := h.lk; omega, ?_⟩, h.rng, h.all, h.low, h.high⟩
 by_cases c : k < hi
 ·exact c
 ·have := h2 hi (by have := h.lk; omega) (by omega)
  rw [h.high] at this; cases this
def Seen (S : List Bool) (ver : Bool) (out : List Rect) (i k : Int) : Prop := ∀ l s, (l < i ∨ (l = i ∧ s < k)) -> cv S ver l s = true -> cv S ver l (s - 1) = false -> ∃ lo hi, isRun S ver l s lo hi ∧ lineR ver l lo hi ∈ out
theorem Seen.next {S : List Bool} {ver : Bool} {out : List Rect} {i k : Int} (h : Seen S ver out i k) (hc : (cv S ver i k && !cv S ver i (k - 1)) = false) : Seen S ver out i (k + 1) := fun l s h1 h2 h3 => by
 by_cases c : l = i ∧ s = k
 ·rw [c.1, c.2] at h2 h3; rw [h2, h3] at hc; cases hc
 ·exact h l s (by omega) h2 h3
theorem Seen.add {S : List Bool} {ver : Bool} {out : List Rect} {i k lo hi : Int} (h : Seen S ver out i k) (hr : isRun S ver i k lo hi) : Seen S ver (out ++ [lineR ver i lo hi]) i (k + 1) := fun l s h1 h2 h3 => by
 by_cases c : l = i ∧ s = k
 ·rw [c.1, c.2]; exact ⟨lo, hi, hr, by simp⟩
 ·obtain ⟨a, b, g1, g2⟩ := h l s (by omega) h2 h3
  exact ⟨a, b, g1, List.mem_append_left _ g2⟩
theorem Seen.all {S : List Bool} {ver : Bool} {out : List Rect} (h : Seen S ver out 40 (-40)) : ∀ l k, cv S ver l k = true -> ∃ lo hi, isRun S ver l k lo hi ∧ lineR ver l lo hi ∈ out := fun l k hk => by
 obtain ⟨s, h1, h2, h3⟩ := run_start _ k rfl hk
 have hr := cv_rng hk
 obtain ⟨lo, hi, g1, g2⟩ := h l s (by omega) (h3 s (Int.le_refl _) h1) h2
 exact ⟨lo, hi, g1.mv h1 h3, g2⟩
def RunL (S : List Bool) (ver : Bool) (out : List Rect) : Prop := ∀ r ∈ out, ∃ l k lo hi, isRun S ver l k lo hi ∧ r = lineR ver l lo hi
theorem RunL.add {S : List Bool} {ver : Bool} {out : List Rect} {i k lo hi : Int} (h : RunL S ver out) (hr : isRun S ver i k lo hi) : RunL S ver (out ++ [lineR ver i lo hi]) := fun r hm => by
 rcases List.mem_append.1 hm with h1 | h1
 ·exact h r h1
 ·simp only [List.mem_singleton] at h1; exact ⟨i, k, lo, hi, hr, h1⟩
theorem RunL.nil {S : List Bool} {ver : Bool} : RunL S ver [] := fun r h => by cases h
theorem Seen.init {S : List Bool} {ver : Bool} {out : List Rect} : Seen S ver out (-40) (-40) := fun l s h1 h2 h3 => by have := cv_rng h2; omega
theorem Seen.line {S : List Bool} {ver : Bool} {out : List Rect} {i : Int} (h : Seen S ver out i 40) : Seen S ver out (i + 1) (-40) := fun l s h1 h2 h3 => by
 have := cv_rng h2
 exact h l s (by omega) h2 h3
theorem runs_s {v : Value} {S : List Bool} {ver : Bool} (h1 : Rs G L boolT v S) (hS : S.length = 6400) (k : ∀ v' out, RunsOf S ver out -> R v' G (osl 101 rectT v' out :: L)) : CallT Tryz.prog 238 #[v, .bool ver] G L R := by
 refine CallT.enter (args := _) Tryz.func238 rfl rfl (by kernel_rfl) rfl ?_
 refine WP.sr (RG.p (PV.asg rfl rfl) (RG.nil (WP.sr ?_)))
 refine RG.ot rfl (OT.bslice (F := rectT) (els := []) rfl El50 rfl (by decide) rfl (by decide) trivial fun v11 => ?_)
 refine RG.p (PV.asg (v := v11) rfl rfl) (RG.nil (WP.seq (WP.sr (RG.mr rfl (RG.nil (WP.block ?_))))))
 refine WP.loop3 [0, 1] (fun (i : Int) (out : List Rect) (q : Value) => (-40 <= i ∧ i <= 40) ∧ (out.length : Int) <= (i + 40) * 80 ∧ RunL S ver out ∧ Seen S ver out i (-40)) (fun (i : Int) (out : List Rect) (q : Value) => [(6, vi i), (5, q)]) (fun (i : Int) (out : List Rect) (q : Value) => osl 101 rectT q out :: L) (fun (i : Int) (out : List Rect) (q : Value) => (40 - i).toNat) (-40) [] v11 ⟨by omega, by simp, RunL.nil, Seen.init⟩ ⟨rfl, rfl, trivial⟩ Cv.p ?_
 rintro i out q τ ⟨hi, hlen, hrl, hseen⟩
 refine WP.seq (WP.sr (RG.ml rfl (RG.p (PV.lss rfl rfl rfl) (RG.nil ?_))))
 refine WP.cond rfl (fun h2 => ?_) fun h2 => ?_
 ·have h2 := odt h2
  refine WP.skip (WP.seq (WP.block (WP.sr (RG.mr rfl (RG.nil (WP.block ?_))))))
  refine WP.loop3 [0, 1, 6] (fun (m : Int) (out2 : List Rect) (q2 : Value) => (-40 <= m ∧ m <= 40) ∧ (out2.length : Int) <= (i + 40) * 80 + (m + 40) ∧ RunL S ver out2 ∧ Seen S ver out2 i m) (fun (m : Int) (out2 : List Rect) (q2 : Value) => [(7, vi m), (5, q2)]) (fun (m : Int) (out2 : List Rect) (q2 : Value) => osl 101 rectT q2 out2 :: L) (fun (m : Int) (out2 : List Rect) (q2 : Value) => (40 - m).toNat) (-40) out q ⟨by omega, by omega, hrl, hseen⟩ ⟨rfl, rfl, trivial⟩ Cv.p ?_
  rintro m out2 q2 τ1 ⟨hm, hlen2, hrl2, hseen2⟩
  refine WP.seq (WP.sr (RG.ml rfl (RG.p (PV.lss rfl rfl rfl) (RG.nil ?_))))
  refine WP.cond rfl (fun h3 => ?_) fun h3 => ?_
  ·have h3 := odt h3
   refine WP.skip (WP.seq (WP.block (WP.sr (RG.ml rfl (RG.ml rfl (RG.mr rfl (RG.mr rfl (RG.nil (WP.sr (RG.p (PV.move (v := v) rfl rfl) (RG.ml rfl ?_)))))))))))
   refine RG.p (PV.sub rfl rfl rfl (by omega)) (RG.ml rfl ?_)
   refine RG.callF (vs := [v, _, _]) rfl rfl En256 rfl (l17Cel_s (Rs.up h1) hS ?_)
   refine RG.br rfl (RG.nil ?_)
   refine WP.cut1 [0, 1, 5, 6, 7] (fun (u : Unit) => True) (fun (u : Unit) => [(8, vi (bif ver then i else m)), (9, vi (bif ver then m else i)), (10, .bool (cv S ver i (m - 1)))]) (fun (u : Unit) => osl 101 rectT q2 out2 :: L) ?_ ?_
   refine WP.sr (RG.bl rfl (RG.nil ?_))
   ·refine WP.cond rfl (fun h4 => ?_) fun h4 => ?_
    ·subst h4
     refine WP.sr (RG.ml rfl (RG.ml rfl (RG.mr rfl (RG.mr rfl (RG.nil (WP.region (RG.p (PV.move (v := v) rfl rfl) (RG.ml rfl (RG.ml rfl (RG.p (PV.sub rfl rfl rfl (by omega)) ?_))))))))))
     refine RG.callF (vs := [v, _, _]) rfl rfl En256 rfl (l17Cel_s (Rs.up h1) hS ?_)
     refine RG.br rfl (RG.nil ?_)
     exact ⟨rfl, (), trivial, ⟨rfl, rfl, rfl, trivial⟩, ⟨rfl, rfl, rfl, rfl, rfl, trivial⟩, Cv.p⟩
    ·subst h4
     refine WP.skip ?_
     exact ⟨rfl, (), trivial, ⟨rfl, rfl, rfl, trivial⟩, ⟨rfl, rfl, rfl, rfl, rfl, trivial⟩, Cv.p⟩
   rintro _u τ2 _
   refine WP.sr (RG.p (PV.move (v := v) rfl rfl) (RG.ml rfl (RG.ml rfl ?_)))
   refine RG.callF (vs := [v, _, _]) rfl rfl En256 rfl (l17Cel_s (Rs.up h1) hS ?_)
   refine RG.bl rfl ?_
   refine RG.g rfl (fun hp => (PV.mvB (.inl rfl) rfl)) ?_
   refine RG.g rfl (fun hp => (PV.not rfl (gt' hp))) ?_
   refine RG.p (PV.pickA rfl rfl (fun hq => gt' (geqT hq)) rfl) (RG.nil ?_)
   refine WP.cond rfl (fun h5 => ?_) fun h5 => ?_
   ·have h50 : (cv S ver i m && !cv S ver i (m - 1)) = true := h5
    have h6 : cv S ver i m = true ∧ cv S ver i (m - 1) = false := by simpa using h50
    have hcm := h6.1
    refine WP.region (RG.p (PV.move (v := q2) rfl rfl) (RG.p (PV.move (v := v) rfl rfl) (RG.ml rfl (RG.ml rfl (RG.bl rfl ?_)))))
    refine RG.callF (vs := [v, _, _, _]) rfl rfl En257 rfl (run_s (l := i) (k0 := m) (Rs.up h1) hS hcm (fun low48 hiw48 hrw48 => ?_))
    refine RG.ot rfl (OT.bslice (F := rectT) (els := [_]) rfl El50 rfl (by decide) rfl (by decide) ⟨rfl, (Cl.c rfl), trivial⟩ fun v49 => ?_)
    refine RG.ot rfl (OT.append (v := q2) (u := v49) (F := rectT) rfl El50 rfl (by decide) rfl rfl Rs.o (OneL.c (fun _ => rfl)) rfl (by first | omega | (simp <;> omega)) fun v50 => ?_)
    refine RG.p (PV.asg (v := v50) rfl rfl) (RG.nil (WP.region (RG.ml rfl (RG.p (PV.add rfl rfl rfl (by omega)) (RG.mr rfl (RG.nil ?_))))))
    exact ⟨rfl, m + 1, (out2 ++ [lineR ver i low48 hiw48]), v50, ⟨by omega, by simp; omega, hrl2.add hrw48, hseen2.add hrw48⟩, ⟨rfl, rfl, trivial⟩, ⟨rfl, rfl, rfl, trivial⟩, Cv.p, by omega⟩
   ·refine WP.skip ?_
    refine WP.region (RG.ml rfl (RG.p (PV.add rfl rfl rfl (by omega)) (RG.mr rfl (RG.nil ?_))))
    exact ⟨rfl, m + 1, out2, q2, ⟨by omega, by omega, hrl2, hseen2.next h5⟩, ⟨rfl, rfl, trivial⟩, ⟨rfl, rfl, rfl, trivial⟩, Cv.p, by omega⟩
  ·have h3 := odf h3
   obtain rfl : m = 40 := by omega
   refine WP.exit (WP.region (RG.ml rfl (RG.p (PV.add rfl rfl rfl (by omega)) (RG.mr rfl (RG.nil ?_)))))
   exact ⟨rfl, i + 1, out2, q2, ⟨by omega, by omega, hrl2, hseen2.line⟩, ⟨rfl, rfl, trivial⟩, ⟨rfl, rfl, trivial⟩, Cv.p, by omega⟩
 ·have h2 := odf h2
  obtain rfl : i = 40 := by omega
  refine WP.exit (WP.sr (RG.p (PV.move (v := q) rfl rfl) (RG.p (PV.asg (v := q) rfl rfl) (RG.nil ?_))))
  exact WP.ret ⟨_, _, rv rfl rfl, Cv.p, k q out ⟨by omega, hrl, hseen.all⟩⟩
structure RunsA (S : List Bool) (out : List Rect) : Prop where
  len : out.length <= 12800
  run : ∀ r ∈ out, ∃ ver l k lo hi, isRun S ver l k lo hi ∧ r = lineR ver l lo hi
  all : ∀ ver l k, cv S ver l k = true -> ∃ lo hi, isRun S ver l k lo hi ∧ lineR ver l lo hi ∈ out
theorem RunsA.of {S : List Bool} {a b : List Rect} (ha : RunsOf S false a) (hb : RunsOf S true b) : RunsA S (a ++ b) := ⟨by have := ha.len; have := hb.len; simp; omega, fun r hr => by
 rcases List.mem_append.1 hr with h | h
 ·obtain ⟨l, k, lo, hi, h1, h2⟩ := ha.run r h; exact ⟨false, l, k, lo, hi, h1, h2⟩
 ·obtain ⟨l, k, lo, hi, h1, h2⟩ := hb.run r h; exact ⟨true, l, k, lo, hi, h1, h2⟩, fun ver l k h => by
 cases ver with
 | false => obtain ⟨lo, hi, h1, h2⟩ := ha.all l k h; exact ⟨lo, hi, h1, List.mem_append_left _ h2⟩
 | true => obtain ⟨lo, hi, h1, h2⟩ := hb.all l k h; exact ⟨lo, hi, h1, List.mem_append_right _ h2⟩⟩
theorem lineR_valid {S : List Bool} {ver : Bool} {l k lo hi : Int} (h : isRun S ver l k lo hi) : validRect (lineR ver l lo hi) = true := by
 have h1 := h.lk; have h2 := h.rng
 rw [validR_iff]
 cases ver <;> simp only [lineR, cond_true, cond_false] <;> omega
theorem runsAll_s {v : Value} {S : List Bool} (h1 : Rs G L boolT v S) (hS : S.length = 6400) (k : ∀ v' out, RunsA S out -> R v' G (osl 101 rectT v' out :: L)) : CallT Tryz.prog 212 #[v] G L R := by
 refine CallT.enter (args := _) Tryz.func212 rfl rfl (by kernel_rfl) rfl ?_
 refine WP.sr (RG.p (PV.asg rfl rfl) (RG.nil (WP.sr (RG.p (PV.move (v := v) rfl rfl) ?_))))
 refine RG.callF (vs := [v, _]) rfl rfl En238 rfl (runs_s (Rs.up h1) hS (fun v4 outv4 houtv4 => have hlnv4 := houtv4.len; ?_))
 refine RG.p (PV.move (v := v) rfl rfl) ?_
 refine RG.callF (vs := [v, _]) rfl rfl En238 rfl (runs_s (Rs.up h1) hS (fun v6 outv6 houtv6 => have hlnv6 := houtv6.len; ?_))
 refine RG.ot rfl (OT.append (v := v4) (u := v6) (F := rectT) rfl El50 rfl (by decide) rfl rfl Rs.o (OneL.c (fun _ => rfl)) rfl (by first | omega | (simp <;> omega)) fun v7 => ?_)
 refine RG.p (PV.asg (v := v7) rfl rfl) (RG.nil ?_)
 exact WP.ret ⟨_, _, rv rfl rfl, Cv.p, k v7 _ (RunsA.of houtv4 houtv6)⟩
def lenR (r : Rect) : Int := (r.x1 - r.x0) * (r.y1 - r.y0)
def markC (list : List Rect) (w : Int) (y x : Nat) : Bool := list.any fun r => decide (lenR r < w) && inR r y x
theorem gb_repf (n y x : Nat) : gb (List.replicate n false) y x = false := by
 unfold gb gd
 rw [List.getElem?_replicate]; split <;> rfl
theorem gb_rep0 {list : List Rect} {w : Int} (y x : Nat) : gb (List.replicate 6400 false) y x = markC (list.take 0) w y x := by rw [gb_repf]; rfl
theorem len17_s {r : Rect} (hv : validRect r = true) (k : R (vi (lenR r)) G L) : CallT Tryz.prog 220 #[vrect r] G L R := by
 have h := validR_iff.1 hv
 have hm : 0 <= (r.x1 - r.x0) * (r.y1 - r.y0) ∧ (r.x1 - r.x0) * (r.y1 - r.y0) <= 80 * 80 := ⟨Int.mul_nonneg (by omega) (by omega), Int.mul_le_mul (by omega) (by omega) (by omega) (by omega)⟩
 refine CallT.enter (args := _) Tryz.func220 rfl rfl (by kernel_rfl) rfl ?_
 refine WP.sr ?_
 refine RG.ot rfl (OT.box (cs := rectT.enc r) rfl rfl rfl fun b1 => ?_)
 refine RG.mr rfl (RG.nil (WP.sr (RG.p (PV.field rfl Fo101_2 rfl) (RG.p (PV.load1 rfl Sc2 rfl (Rd.blk rfl)) (RG.p (PV.field rfl Fo101_0 rfl) (RG.p (PV.load1 rfl Sc2 rfl (Rd.blk rfl)) (RG.p (PV.sub rfl rfl rfl (by omega)) (RG.p (PV.field rfl Fo101_3 rfl) (RG.p (PV.load1 rfl Sc2 rfl (Rd.blk rfl)) (RG.p (PV.field rfl Fo101_1 rfl) (RG.p (PV.load1 rfl Sc2 rfl (Rd.blk rfl)) (RG.p (PV.sub rfl rfl rfl (by omega)) ?_))))))))))))
 refine RG.p (PV.mul rfl rfl rfl (by omega)) (RG.mr rfl (RG.nil ?_))
 exact WP.ret ⟨_, _, rv rfl rfl, Cv.p, k⟩
theorem mark_s {v : Value} {list : List Rect} {w : Int} (h1 : Rs G L rectT v list) (hv : ∀ r ∈ list, validRect r = true) (hl : list.length <= 1000000) (k : ∀ v' D, D.length = 6400 -> (∀ y x, y < 80 -> x < 80 -> gb D y x = markC list w y x) -> R v' G (osl 4 boolT v' D :: L)) : CallT Tryz.prog 211 #[v, vi w] G L R := by
 refine CallT.enter (args := _) Tryz.func211 rfl rfl (by kernel_rfl) rfl ?_
 refine WP.sr (RG.p (PV.asg rfl rfl) (RG.nil (WP.sr ?_)))
 refine RG.ot rfl (OT.make (m := 6400) (F := boolT) (a0 := false) rfl El148 rfl (by decide) rfl rfl (by omega) (by omega) fun v7 => ?_)
 refine RG.p (PV.asg (v := v7) rfl rfl) (RG.nil (WP.seq (WP.sr (RG.mr rfl (RG.nil (WP.block ?_))))))
 refine WP.loop3 [0, 1] (fun (i : Nat) (E : List Bool) (q : Value) => i <= list.length ∧ E.length = 6400 ∧ ∀ y x, y < 80 -> x < 80 -> gb E y x = markC (list.take i) w y x) (fun (i : Nat) (E : List Bool) (q : Value) => [(6, vi i), (5, q)]) (fun (i : Nat) (E : List Bool) (q : Value) => osl 4 boolT q E :: L) (fun (i : Nat) (E : List Bool) (q : Value) => list.length - i) 0 (List.replicate 6400 false) v7 ⟨by omega, by simp, fun y x _ _ => gb_rep0 y x⟩ ⟨rfl, rfl, trivial⟩ Cv.p ?_
 rintro i E q τ ⟨hi, hE, hg⟩
 refine WP.seq (WP.sr (RG.ml rfl (RG.p (PV.move (v := v) rfl rfl) (RG.p (PV.len (v := v) rfl Tryz.underlying50 rfl (SlF.r h1)) (RG.p (PV.lss rfl rfl rfl) (RG.nil ?_))))))
 refine WP.cond rfl (fun h2 => ?_) fun h2 => ?_
 ·have h2 := odt h2
  have hil : i < list.length := by omega
  have htk : list.take (i + 1) = list.take i ++ [gd list i] := by rw [List.take_add_one, getG hil]; rfl
  refine WP.skip (WP.seq (WP.block (WP.sr (RG.p (PV.move (v := v) rfl rfl) (RG.ml rfl (RG.p (PV.idxS (v := v) rfl Is50 rfl (SlF.r h1) rfl rfl (by omega)) (RG.p (PV.loadE rfl Ag101 rfl rfl (El.r h1 (getG (by omega)))) ?_)))))))
  refine RG.callF (vs := [_]) rfl rfl En220 rfl (len17_s (hv _ (gd_mem (by omega))) ?_)
  refine RG.ml rfl (RG.p (PV.lss rfl rfl rfl) (RG.nil ?_))
  refine WP.cond rfl (fun h3 => ?_) fun h3 => ?_
  ·have h3 := odt h3
   have h4 : decide (lenR (gd list i) < w) = true := decide_eq_true h3
   refine WP.region (RG.p (PV.move (v := q) rfl rfl) (RG.p (PV.move (v := v) rfl rfl) (RG.ml rfl (RG.p (PV.idxS (v := v) rfl Is50 rfl (SlF.r h1) rfl rfl (by omega)) (RG.p (PV.loadE rfl Ag101 rfl rfl (El.r h1 (getG (by omega)))) ?_)))))
   refine RG.callF (vs := [q, _]) rfl rfl En221 rfl (CallT.exS q (fill_s hE (hv _ (gd_mem (by omega))) (fun D' hD' hg' => ?_)))
   refine RG.p (PV.asg rfl rfl) (RG.nil (WP.region (RG.ml rfl (RG.p (PV.add rfl rfl rfl (by omega)) (RG.mr rfl (RG.nil ?_))))))
   exact ⟨rfl, i + 1, D', q, ⟨by omega, hD', fun y x hy hx => by rw [hg' y x hy hx, hg y x hy hx, markC, markC, htk, List.any_append]; simp [h4]⟩, ⟨rfl, rfl, trivial⟩, ⟨rfl, rfl, trivial⟩, Cv.p, by omega⟩
  ·have h3 := odf h3
   have h4 : decide (lenR (gd list i) < w) = false := decide_eq_false h3
   refine WP.skip (WP.region (RG.ml rfl (RG.p (PV.add rfl rfl rfl (by omega)) (RG.mr rfl (RG.nil ?_)))))
   exact ⟨rfl, i + 1, E, q, ⟨by omega, hE, fun y x hy hx => by rw [hg y x hy hx, markC, markC, htk, List.any_append]; simp [h4]⟩, ⟨rfl, rfl, trivial⟩, ⟨rfl, rfl, trivial⟩, Cv.p, by omega⟩
 ·have h2 := odf h2
  rw [List.take_of_length_le (by omega)] at hg
  refine WP.exit (WP.sr (RG.p (PV.move (v := q) rfl rfl) (RG.p (PV.asg (v := q) rfl rfl) (RG.nil ?_))))
  exact WP.ret ⟨_, _, rv rfl rfl, Cv.p, k q E hE hg⟩
open Classical in
noncomputable def celL (P : Nat -> Nat -> Prop) : List Bool := (List.range 6400).map fun k => decide (P (k / 80) (k % 80))
theorem celL_len (P : Nat -> Nat -> Prop) : (celL P).length = 6400 := by simp [celL]
theorem celL_gb {P : Nat -> Nat -> Prop} {y x : Nat} (hy : y < 80) (hx : x < 80) : gb (celL P) y x = true ↔ P y x := by
 have h1 : y * 80 + x < 6400 := by omega
 have h2 : (y * 80 + x) / 80 = y := by omega
 have h3 : (y * 80 + x) % 80 = x := by omega
 simp [gb, gd, celL, h1, h2, h3]
theorem celL_eq {P : Nat -> Nat -> Prop} {D : List Bool} (hD : D.length = 6400) (h : ∀ y x, y < 80 -> x < 80 -> (gb D y x = true ↔ P y x)) : D = celL P :=
 gb_ext hD (celL_len _) fun y x hy hx => by rw [Bool.eq_iff_iff, h y x hy hx, celL_gb hy hx]
def lnI (ver : Bool) (y x : Nat) : Int := bif ver then (x : Int) - 40 else (y : Int) - 40
def plI (ver : Bool) (y x : Nat) : Int := bif ver then (y : Int) - 40 else (x : Int) - 40
theorem inR_line {ver : Bool} {l lo hi : Int} {y x : Nat} : inR (lineR ver l lo hi) y x = true ↔ l = lnI ver y x ∧ lo <= plI ver y x ∧ plI ver y x < hi := by
 rw [inR_iff]
 cases ver <;> simp only [lineR, lnI, plI, cond_true, cond_false] <;> omega
theorem lenR_line {ver : Bool} {l lo hi : Int} : lenR (lineR ver l lo hi) = hi - lo := by
 cases ver
 ·simp only [lenR, lineR, cond_false]; rw [show l + 1 - l = 1 by omega, Int.mul_one]
 ·simp only [lenR, lineR, cond_true]; rw [show l + 1 - l = 1 by omega, Int.one_mul]
theorem isRun.uniq {S : List Bool} {ver : Bool} {l k lo hi lo' hi' : Int} (h : isRun S ver l k lo hi) (g : isRun S ver l k lo' hi') : lo = lo' ∧ hi = hi' := by
 have a1 := h.lk; have a2 := g.lk
 constructor
 ·rcases Int.lt_trichotomy lo lo' with c | c | c
  ·have := h.all (lo' - 1) (by omega) (by omega); rw [g.low] at this; cases this
  ·exact c
  ·have := g.all (lo - 1) (by omega) (by omega); rw [h.low] at this; cases this
 ·rcases Int.lt_trichotomy hi hi' with c | c | c
  ·have := g.all hi (by omega) (by omega); rw [h.high] at this; cases this
  ·exact c
  ·have := h.all hi' (by omega) (by omega); rw [g.high] at this; cases this
def Thin (S : List Bool) (w : Int) (y x : Nat) : Prop := ∃ ver lo hi, isRun S ver (lnI ver y x) (plI ver y x) lo hi ∧ hi - lo < w
theorem isRun.at {S : List Bool} {ver : Bool} {l k k' lo hi : Int} (h : isRun S ver l k lo hi) (h1 : lo <= k' ∧ k' < hi) : isRun S ver l k' lo hi := ⟨h1, h.rng, h.all, h.low, h.high⟩
theorem markC_iff {S : List Bool} {out : List Rect} (h : RunsA S out) {w : Int} {y x : Nat} : markC out w y x = true ↔ Thin S w y x := by
 simp only [markC, List.any_eq_true, Bool.and_eq_true, decide_eq_true_eq]
 constructor
 ·rintro ⟨r, hr, h1, h2⟩
  obtain ⟨ver, l, k, lo, hi, h3, rfl⟩ := h.run r hr
  obtain ⟨rfl, h4⟩ := inR_line.1 h2
  rw [lenR_line] at h1
  exact ⟨ver, lo, hi, h3.at h4, h1⟩
 ·rintro ⟨ver, lo, hi, h1, h2⟩
  obtain ⟨lo', hi', h3, h4⟩ := h.all ver _ _ (h1.all _ h1.lk.1 h1.lk.2)
  obtain ⟨rfl, rfl⟩ := h1.uniq h3
  exact ⟨_, h4, by rw [lenR_line]; exact h2, inR_line.2 ⟨rfl, h1.lk⟩⟩
def okDist (w : Int) : Bool := decide (w ≥ 1) && decide (w <= 8)
noncomputable def widthL (xs : List Rect) (w : Int) : List Rect := if (isReg xs && okDist w) = true then canon (celL (Thin (bits xs) w)) else []
theorem distance_s {w : Int} (k : R (.bool (okDist w)) G L) : CallT Tryz.prog 210 #[vi w] G L R := by
 refine CallT.enter (args := _) Tryz.func210 rfl rfl (by kernel_rfl) rfl ?_
 refine WP.sr (RG.br rfl (RG.nil (WP.sr (RG.ml rfl (RG.p (PV.geq rfl rfl rfl) (RG.bl rfl ?_))))))
 refine RG.g rfl (fun hp => (PV.mvI (.inl rfl) rfl)) ?_
 refine RG.g rfl (fun hp => (PV.leq rfl (gt' hp) rfl)) ?_
 refine RG.p (PV.pickA rfl rfl (fun hq => gt' (geqT hq)) rfl) (RG.br rfl (RG.nil ?_))
 exact WP.ret ⟨_, _, rv rfl rfl, Cv.p, k⟩
theorem markWidth_s {v : Value} {xs : List Rect} {w : Int} (h1 : Rs G L rectT v xs) (k : ∀ v', R v' G (osl 101 rectT v' (widthL xs w) :: L)) : CallT Tryz.prog 170 #[v, vi w] G L R := by
 refine CallT.enter (args := _) Tryz.func170 rfl rfl (by kernel_rfl) rfl ?_
 refine WP.sr (RG.p (PV.asg rfl rfl) (RG.nil (WP.seq (WP.sr (RG.p (PV.move (v := v) rfl rfl) ?_)))))
 refine RG.callF (vs := [v]) rfl rfl En54 rfl (l03Ok_s (Rs.up h1) ?_)
 refine RG.p (PV.not rfl rfl) (RG.bl rfl ?_)
 refine RG.g rfl (fun hp => (PV.mvI (.inl rfl) rfl)) ?_
 refine RG.gsC rfl rfl rfl rfl En210 (fun hp => ⟨_, (acons (gt' hp) anil), distance_s ⟨rfl, rfl, rfl⟩⟩) ?_
 refine RG.g rfl (fun hp => (PV.not rfl (gt' hp))) ?_
 refine RG.p (PV.pickO rfl rfl rfl (fun hq => gt' (geqF hq))) (RG.nil ?_)
 refine WP.cond rfl (fun h2 => ?_) fun h2 => ?_
 ·have e : widthL xs w = [] := by rw [widthL, if_neg]; cases h3 : isReg xs <;> cases h4 : okDist w <;> simp_all
  rw [e] at k
  refine WP.sr ?_
  refine RG.ot rfl (OT.bslice (F := rectT) (els := []) rfl El50 rfl (by decide) rfl (by decide) trivial fun v13 => ?_)
  refine RG.p (PV.asg (v := v13) rfl rfl) (RG.nil ?_)
  exact WP.ret ⟨_, _, rv rfl rfl, Cv.p, k v13⟩
 ·have h3 : isReg xs = true ∧ okDist w = true := by cases h3 : isReg xs <;> cases h4 : okDist w <;> simp_all
  have hreg := h3.1
  refine WP.skip (WP.sr (RG.p (PV.move (v := v) rfl rfl) ?_))
  refine RG.callF (vs := [v]) rfl rfl En104 rfl (l03Bits_s (Rs.up h1) (fun i hi => valid_get (isReg_valid hreg) hi) (fun v15 => ?_))
  refine RG.callF (vs := [v15]) rfl rfl En212 rfl (runsAll_s Rs.o (bits_length _) (fun v16 outv16 houtv16 => have hlnv16 := houtv16.len; ?_))
  refine RG.ml rfl ?_
  refine RG.callF (vs := [v16, _]) rfl rfl En211 rfl (mark_s Rs.o (fun r hr => by obtain ⟨ver, l, k, lo, hi, g1, rfl⟩ := houtv16.run r hr; exact lineR_valid g1) (by omega) (fun v18 Dv18 hDv18 hgv18 => ?_))
  refine RG.callF (vs := [v18]) rfl rfl En103 rfl (l03Canon_s Rs.o hDv18 (fun v19 => ?_))
  refine RG.p (PV.asg (v := v19) rfl rfl) (RG.nil ?_)
  refine WP.ret ?_
  have e : widthL xs w = canon Dv18 := by rw [widthL, if_pos (by rw [h3.1, h3.2]; rfl), celL_eq (P := Thin (bits xs) w) hDv18 (fun y x hy hx => by rw [hgv18 y x hy hx, markC_iff houtv16])]
  rw [e] at k
  exact ⟨_, _, rv rfl rfl, Cv.p, k v19⟩
end Go.Proofs.YtogocmlhnjiaaaaGreat
namespace Go.Proofs.YtogocmlhnjiaaaaGreat
open Go
set_option maxRecDepth 20000
variable {G : Gh} {L : List Ch} {R : Value -> Gh -> List Ch -> Prop}
def notB (S : List Bool) : List Bool := S.map (!·)
theorem notB_len (S : List Bool) : (notB S).length = S.length := by simp [notB]
theorem mapB_set {f : Nat -> Bool} {E : List Bool} {i n : Nat} (hi : i < n) (hE : E = (List.range i).map f ++ List.replicate (n - i) false) : E.set i (f i) = (List.range (i + 1)).map f ++ List.replicate (n - (i + 1)) false := by
 rw [hE, List.set_append_right _ _ (by simp), List.range_succ, List.map_append, List.append_assoc]
 congr 1
 rw [show n - i = (n - (i + 1)) + 1 by omega, List.replicate_succ]
 simp
theorem mapB_all {f : Nat -> Bool} {S : List Bool} {g : Bool -> Bool} (h : ∀ j, j < S.length -> f j = g (gd S j)) : (List.range S.length).map f ++ List.replicate (S.length - S.length) false = S.map g := by
 rw [Nat.sub_self, List.replicate_zero, List.append_nil]
 apply List.ext_getElem
 ·simp
 ·intro j h1 h2
  have h3 : j < S.length := by simpa using h1
  simp only [List.getElem_map, List.getElem_range, h j h3]
  rw [gd_eq h3]
theorem outside_s {v : Value} {S : List Bool} (h1 : Rs G L boolT v S) (hl : S.length = 6400) (k : ∀ v', R v' G (osl 4 boolT v' (notB S) :: L)) : CallT Tryz.prog 258 #[v] G L R := by
 refine CallT.enter (args := _) Tryz.func258 rfl rfl (by kernel_rfl) rfl ?_
 refine WP.sr (RG.p (PV.asg rfl rfl) (RG.nil (WP.sr (RG.p (PV.move (v := v) rfl rfl) (RG.p (PV.len (v := v) rfl Tryz.underlying148 rfl (SlF.r h1)) ?_)))))
 refine RG.ot rfl (OT.make (F := boolT) (a0 := false) rfl El148 rfl (by decide) rfl rfl (by omega) (by omega) fun v7 => ?_)
 refine RG.p (PV.asg (v := v7) rfl rfl) (RG.nil (WP.seq (WP.sr (RG.mr rfl (RG.nil (WP.block ?_))))))
 refine WP.loop2 [0, 3] (fun (i : Nat) (E : List Bool) => i <= S.length ∧ E = (List.range i).map (fun j => !gd S j) ++ List.replicate (S.length - i) false) (fun (i : Nat) (E : List Bool) => [(4, vi i)]) (fun (i : Nat) (E : List Bool) => osl 4 boolT v7 E :: L) (fun (i : Nat) (E : List Bool) => S.length - i) 0 (List.replicate S.length false) ⟨by omega, by simp⟩ ⟨rfl, trivial⟩ Cv.p ?_
 rintro i E τ ⟨hi, hE⟩
 refine WP.seq (WP.sr (RG.ml rfl (RG.p (PV.move (v := v) rfl rfl) (RG.p (PV.len (v := v) rfl Tryz.underlying148 rfl (SlF.r h1)) (RG.p (PV.lss rfl rfl rfl) (RG.nil ?_))))))
 have hEl : E.length = S.length := by rw [hE]; simp; omega
 refine WP.cond rfl (fun h2 => ?_) fun h2 => ?_
 ·have h2 := odt h2
  have hn := mapB_set (f := fun j => !gd S j) (n := S.length) (i := i) (by omega) hE
  refine WP.skip (WP.seq (WP.block (WP.region (RG.p (PV.move (v := v7) rfl rfl) (RG.ml rfl (RG.p (PV.move (v := v) rfl rfl) (RG.ml rfl (RG.p (PV.idxS (v := v) rfl Is148 rfl (SlF.r h1) rfl rfl (by omega)) (RG.p (PV.loadE1 rfl Sc4 rfl rfl (El.r h1 (getG (by omega))) rfl) (RG.p (PV.not rfl rfl) (RG.p (PV.idxS (v := v7) rfl Is148 rfl SlF.o rfl rfl (by omega)) ?_)))))))))))
  refine RG.ot rfl (OT.storeE (F := boolT) rfl Sz4 rfl rfl rfl (Cl.c rfl) (OneC.c rfl) (by omega) ?_)
  refine RG.nil (WP.region (RG.ml rfl (RG.p (PV.add rfl rfl rfl (by omega)) (RG.mr rfl (RG.nil ?_)))))
  exact ⟨rfl, i + 1, _, ⟨by omega, hn⟩, ⟨rfl, trivial⟩, ⟨rfl, rfl, trivial⟩, Cv.p, by omega⟩
 ·have h2 := odf h2
  obtain rfl : i = S.length := by omega
  rw [mapB_all (g := (!·)) (fun j _ => rfl)] at hE
  have hE' : E = notB S := hE
  rw [hE']
  refine WP.exit (WP.sr (RG.p (PV.move (v := v7) rfl rfl) (RG.p (PV.asg (v := v7) rfl rfl) (RG.nil ?_))))
  exact WP.ret ⟨_, _, rv rfl rfl, Cv.p, k v7⟩
def endP (r : Rect) (ver : Bool) : Pt := bif ver then ⟨r.x0, r.y0 - 1⟩ else ⟨r.x0 - 1, r.y0⟩
def endQ (r : Rect) (ver : Bool) : Pt := bif ver then ⟨r.x0, r.y1⟩ else ⟨r.x1, r.y0⟩
theorem ends_s {r : Rect} {ver : Bool} (hv : validRect r = true) (k : R (.tuple #[vpt (endP r ver), vpt (endQ r ver)]) G L) : CallT Tryz.prog 259 #[vrect r, .bool ver] G L R := by
 have h := validR_iff.1 hv
 refine CallT.enter (args := _) Tryz.func259 rfl rfl (by kernel_rfl) rfl ?_
 refine WP.sr ?_
 refine RG.ot rfl (OT.box (cs := rectT.enc r) rfl rfl rfl fun b2 => ?_)
 refine RG.ot rfl (OT.alloc rfl Zr156 fun b4 => ?_)
 refine RG.ot rfl (OT.alloc rfl Zr156 fun b5 => ?_)
 refine RG.nil (WP.seq (WP.sr (RG.bl rfl (RG.nil ?_))))
 refine WP.cond rfl (fun h2 => ?_) fun h2 => ?_
 ·subst h2
  refine WP.seq ?_
  refine WP.regionHD [.b b4, .b b5] (.q 0 (.q 1 (.q 2 (.q 3 (.q 4 (.q 5 (.q 6 (.q 7 (.q 8 (.q 9 (.q 10 (.l 11 (.l 12 Sch.nil))))))))))))) (by kernel_rfl) (by kernel_rfl) (by kernel_rfl) rfl ?_
  refine RH.w rfl rfl (PV.field rfl Fo101_0 rfl) (RH.w rfl rfl (PV.load1 rfl Sc2 rfl (Rd.blk rfl)) (RH.w rfl rfl (PV.field rfl Fo101_1 rfl) (RH.w rfl rfl (PV.load1 rfl Sc2 rfl (Rd.blk rfl)) (RH.w rfl rfl (PV.sub rfl rfl rfl (by omega)) (RH.w rfl rfl (PV.build (vs := [(0, [vi _]), (1, [vi _])]) (out := [_, _]) rfl Zr156 Pl156 ⟨rfl, (Cl.c rfl), ⟨rfl, (Cl.c rfl), trivial⟩⟩ rfl) (RH.w rfl rfl (PV.field rfl Fo101_0 rfl) (RH.w rfl rfl (PV.load1 rfl Sc2 rfl (Rd.blk rfl)) (RH.w rfl rfl (PV.field rfl Fo101_3 rfl) (RH.w rfl rfl (PV.load1 rfl Sc2 rfl (Rd.blk rfl)) (RH.w rfl rfl (PV.build (vs := [(0, [vi _]), (1, [vi _])]) (out := [_, _]) rfl Zr156 Pl156 ⟨rfl, (Cl.c rfl), ⟨rfl, (Cl.c rfl), trivial⟩⟩ rfl) ?_))))))))))
  refine RH.ot rfl rfl (OT.storeW (vs := [vi _, vi _]) rfl Sz156 rfl rfl (Cl.c rfl) rfl rfl (OneC.c rfl) (kp ?_))
  refine RH.ot rfl rfl (OT.storeW (vs := [vi _, vi _]) rfl Sz156 rfl rfl (Cl.c rfl) rfl rfl (OneC.c rfl) (kp ?_))
  refine RH.nil ?_
  exact WP.ret ⟨_, _, ResV.two rfl (RV1.cell rfl Ag156 rfl) (RV1.cell rfl Ag156 rfl), Cv.p, k⟩
 ·subst h2
  refine WP.skip (WP.seq ?_)
  refine WP.regionHD [.b b4, .b b5] (.q 0 (.q 1 (.q 2 (.q 3 (.q 4 (.q 5 (.q 6 (.q 7 (.q 8 (.q 9 (.q 10 (.l 11 (.l 12 Sch.nil))))))))))))) (by kernel_rfl) (by kernel_rfl) (by kernel_rfl) rfl ?_
  refine RH.w rfl rfl (PV.field rfl Fo101_0 rfl) (RH.w rfl rfl (PV.load1 rfl Sc2 rfl (Rd.blk rfl)) (RH.w rfl rfl (PV.sub rfl rfl rfl (by omega)) (RH.w rfl rfl (PV.field rfl Fo101_1 rfl) (RH.w rfl rfl (PV.load1 rfl Sc2 rfl (Rd.blk rfl)) (RH.w rfl rfl (PV.build (vs := [(0, [vi _]), (1, [vi _])]) (out := [_, _]) rfl Zr156 Pl156 ⟨rfl, (Cl.c rfl), ⟨rfl, (Cl.c rfl), trivial⟩⟩ rfl) (RH.w rfl rfl (PV.field rfl Fo101_2 rfl) (RH.w rfl rfl (PV.load1 rfl Sc2 rfl (Rd.blk rfl)) (RH.w rfl rfl (PV.field rfl Fo101_1 rfl) (RH.w rfl rfl (PV.load1 rfl Sc2 rfl (Rd.blk rfl)) (RH.w rfl rfl (PV.build (vs := [(0, [vi _]), (1, [vi _])]) (out := [_, _]) rfl Zr156 Pl156 ⟨rfl, (Cl.c rfl), ⟨rfl, (Cl.c rfl), trivial⟩⟩ rfl) ?_))))))))))
  refine RH.ot rfl rfl (OT.storeW (vs := [vi _, vi _]) rfl Sz156 rfl rfl (Cl.c rfl) rfl rfl (OneC.c rfl) (kp ?_))
  refine RH.ot rfl rfl (OT.storeW (vs := [vi _, vi _]) rfl Sz156 rfl rfl (Cl.c rfl) rfl rfl (OneC.c rfl) (kp ?_))
  refine RH.nil ?_
  exact WP.ret ⟨_, _, ResV.two rfl (RV1.cell rfl Ag156 rfl) (RV1.cell rfl Ag156 rfl), Cv.p, k⟩
def orZ (A B : List Bool) : List Bool := (List.range A.length).map fun j => gd A j || gd B j
theorem orZ_len (A B : List Bool) : (orZ A B).length = A.length := by simp [orZ]
def gapE (A B : List Bool) (ver : Bool) (r : Rect) : Bool := (celB A (endP r ver).x (endP r ver).y && celB B (endQ r ver).x (endQ r ver).y) || (celB B (endP r ver).x (endP r ver).y && celB A (endQ r ver).x (endQ r ver).y)
theorem filt_succ {α : Type} [Inhabited α] (p : α -> Bool) {xs : List α} {i : Nat} (h : i < xs.length) : (xs.take (i + 1)).filter p = (xs.take i).filter p ++ (if p (gd xs i) = true then [gd xs i] else []) := by
 rw [List.take_add_one, getG h, List.filter_append]; congr 1; cases h2 : p (gd xs i) <;> simp [h2]
theorem betw_s {u v : Value} {A B : List Bool} {ver : Bool} (h1 : Rs G L boolT u A) (h2 : Rs G L boolT v B) (hA : A.length = 6400) (hB : B.length = 6400) (k : ∀ v' out, RunsOf (notB (orZ A B)) ver out -> R v' G (osl 101 rectT v' (out.filter (gapE A B ver)) :: L)) : CallT Tryz.prog 239 #[u, v, .bool ver] G L R := by
 refine CallT.enter (args := _) Tryz.func239 rfl rfl (by kernel_rfl) rfl ?_
 refine WP.sr (RG.p (PV.asg rfl rfl) (RG.nil (WP.sr (RG.p (PV.move (v := u) rfl rfl) (RG.p (PV.len (v := u) rfl Tryz.underlying148 rfl (SlF.r h1)) ?_)))))
 refine RG.ot rfl (OT.make (F := boolT) (a0 := false) rfl El148 rfl (by decide) rfl rfl (by omega) (by omega) fun v16 => ?_)
 refine RG.p (PV.asg (v := v16) rfl rfl) (RG.nil (WP.seq (WP.sr (RG.mr rfl (RG.nil (WP.block ?_))))))
 refine WP.loop2 [0, 1, 2, 7] (fun (i : Nat) (E : List Bool) => i <= A.length ∧ E = (List.range i).map (fun j => gd A j || gd B j) ++ List.replicate (A.length - i) false) (fun (i : Nat) (E : List Bool) => [(8, vi i)]) (fun (i : Nat) (E : List Bool) => osl 4 boolT v16 E :: L) (fun (i : Nat) (E : List Bool) => A.length - i) 0 (List.replicate A.length false) ⟨by omega, by simp⟩ ⟨rfl, trivial⟩ Cv.p ?_
 rintro i E τ ⟨hi, hE⟩
 refine WP.seq (WP.sr (RG.ml rfl (RG.p (PV.move (v := u) rfl rfl) (RG.p (PV.len (v := u) rfl Tryz.underlying148 rfl (SlF.r h1)) (RG.p (PV.lss rfl rfl rfl) (RG.nil ?_))))))
 have hEl : E.length = A.length := by rw [hE]; simp; omega
 refine WP.cond rfl (fun h3 => ?_) fun h3 => ?_
 ·have h3 := odt h3
  have hn := mapB_set (f := fun j => gd A j || gd B j) (n := A.length) (i := i) (by omega) hE
  refine WP.skip (WP.seq (WP.block (WP.region (RG.p (PV.move (v := v16) rfl rfl) (RG.ml rfl (RG.p (PV.move (v := u) rfl rfl) (RG.ml rfl (RG.p (PV.idxS (v := u) rfl Is148 rfl (SlF.r h1) rfl rfl (by omega)) (RG.p (PV.loadE1 rfl Sc4 rfl rfl (El.r h1 (getG (by omega))) rfl) (RG.bl rfl ?_))))))))))
  refine RG.g rfl (fun hp => (PV.move (v := v) rfl rfl)) ?_
  refine RG.g rfl (fun hp => (PV.mvI (.inl rfl) rfl)) ?_
  refine RG.g rfl (fun hp => (PV.idxS (v := v) rfl Is148 (gt' hp) (SlF.r h2) (gt' hp) rfl (by first | omega | (simp at hp; omega)))) ?_
  refine RG.g rfl (fun hp => (PV.loadE1 rfl Sc4 (gt' hp) rfl (El.r h2 (getG (by first | omega | (simp at hp; omega)))) rfl)) ?_
  refine RG.p (PV.pickO rfl rfl rfl (fun hq => gt' (geqF hq))) (RG.p (PV.idxS (v := v16) rfl Is148 rfl SlF.o rfl rfl (by omega)) ?_)
  refine RG.ot rfl (OT.storeE (F := boolT) rfl Sz4 rfl rfl rfl (Cl.c rfl) (OneC.c rfl) (by omega) ?_)
  refine RG.nil (WP.region (RG.ml rfl (RG.p (PV.add rfl rfl rfl (by omega)) (RG.mr rfl (RG.nil ?_)))))
  exact ⟨rfl, i + 1, _, ⟨by omega, hn⟩, ⟨rfl, trivial⟩, ⟨rfl, rfl, rfl, rfl, trivial⟩, Cv.p, by omega⟩
 ·have h3 := odf h3
  obtain rfl : i = A.length := by omega
  have hE' : E = orZ A B := by rw [hE, Nat.sub_self, List.replicate_zero, List.append_nil]; rfl
  rw [hE']
  refine WP.exit (WP.sr (RG.p (PV.move (v := v16) rfl rfl) ?_))
  refine RG.callF (vs := [v16]) rfl rfl En258 rfl (outside_s Rs.o (by rw [orZ_len]; exact hA) (fun v37 => ?_))
  refine RG.bl rfl ?_
  refine RG.callF (vs := [v37, _]) rfl rfl En238 rfl (runs_s Rs.o (by rw [notB_len, orZ_len]; exact hA) (fun v39 outv39 houtv39 => have hlnv39 := houtv39.len; ?_))
  refine RG.p (PV.asg (v := v39) rfl rfl) (RG.nil (WP.sr ?_))
  refine RG.ot rfl (OT.bslice (F := rectT) (els := []) rfl El50 rfl (by decide) rfl (by decide) trivial fun v40 => ?_)
  refine RG.p (PV.asg (v := v40) rfl rfl) (RG.nil (WP.seq (WP.sr (RG.mr rfl (RG.nil (WP.block ?_))))))
  have hvr : ∀ r ∈ outv39, validRect r = true := fun r hr => by obtain ⟨l, k, lo, hi, g1, rfl⟩ := houtv39.run r hr; exact lineR_valid g1
  refine WP.loop3 [0, 1, 2, 9] (fun (i : Nat) (out : List Rect) (q : Value) => i <= outv39.length ∧ out = (outv39.take i).filter (gapE A B ver)) (fun (i : Nat) (out : List Rect) (q : Value) => [(11, vi i), (10, q)]) (fun (i : Nat) (out : List Rect) (q : Value) => osl 101 rectT q out :: osl 101 rectT v39 outv39 :: L) (fun (i : Nat) (out : List Rect) (q : Value) => outv39.length - i) 0 [] v40 ⟨by omega, rfl⟩ ⟨rfl, rfl, trivial⟩ Cv.p ?_
  rintro i out q τ1 ⟨hi, hout⟩
  refine WP.seq (WP.sr (RG.ml rfl (RG.p (PV.move (v := v39) rfl rfl) (RG.p (PV.len (v := v39) rfl Tryz.underlying50 rfl SlF.o) (RG.p (PV.lss rfl rfl rfl) (RG.nil ?_))))))
  have hol : out.length <= 6400 := by have := List.length_filter_le (gapE A B ver) (outv39.take i); rw [<- hout, List.length_take] at this; omega
  refine WP.cond rfl (fun h4 => ?_) fun h4 => ?_
  ·have h4 := odt h4
   have h40 : i < outv39.length := by omega
   have hf := filt_succ (gapE A B ver) h40
   refine WP.skip (WP.seq (WP.block (WP.sr (RG.p (PV.move (v := v39) rfl rfl) (RG.ml rfl (RG.p (PV.idxS (v := v39) rfl Is50 rfl SlF.o rfl rfl (by omega)) (RG.p (PV.loadE rfl Ag101 rfl rfl (El.o (getG (by omega)))) (RG.bl rfl ?_))))))))
   refine RG.callF (vs := [_, _]) rfl rfl En259 rfl (ends_s (hvr _ (gd_mem (by omega))) ?_)
   refine RG.p (PV.move (v := .tuple _) rfl rfl) (RG.p (PV.ext rfl rfl rfl) (RG.p (PV.ext rfl rfl rfl) ?_))
   refine RG.ot rfl (OT.alloc rfl Zr156 fun b12 => ?_)
   refine RG.ot rfl (OT.alloc rfl Zr156 fun b13 => ?_)
   refine RG.ot rfl (OT.storeW (vs := [vi _, vi _]) rfl Sz156 rfl rfl (Cl.c rfl) rfl rfl (OneC.c rfl) ?_)
   refine RG.ot rfl (OT.storeW (vs := [vi _, vi _]) rfl Sz156 rfl rfl (Cl.c rfl) rfl rfl (OneC.c rfl) ?_)
   refine RG.nil (WP.sr (RG.p (PV.move (v := u) rfl rfl) (RG.p (PV.field rfl Fo156_0 rfl) (RG.p (PV.load1 rfl Sc2 rfl (Rd.blk rfl)) (RG.p (PV.field rfl Fo156_1 rfl) (RG.p (PV.load1 rfl Sc2 rfl (Rd.blk rfl)) ?_))))))
   refine RG.callF (vs := [u, _, _]) rfl rfl En256 rfl (l17Cel_s (Rs.up h1) hA ?_)
   refine RG.bl rfl ?_
   refine RG.g rfl (fun hp => (PV.move (v := v) rfl rfl)) ?_
   refine RG.g rfl (fun hp => (PV.field rfl Fo156_0 rfl)) ?_
   refine RG.g rfl (fun hp => (PV.load1 rfl Sc2 (gt' hp) (Rd.blk rfl))) ?_
   refine RG.g rfl (fun hp => (PV.field rfl Fo156_1 rfl)) ?_
   refine RG.g rfl (fun hp => (PV.load1 rfl Sc2 (gt' hp) (Rd.blk rfl))) ?_
   refine RG.gsC rfl rfl rfl rfl En256 (fun hp => ⟨_, (acons (gt' hp) (acons (gt' hp) (acons (gt' hp) anil))), l17Cel_s (Rs.up h2) hB ⟨rfl, rfl, rfl⟩⟩) ?_
   refine RG.p (PV.pickA rfl rfl (fun hq => gt' (geqT hq)) rfl) (RG.bl rfl ?_)
   refine RG.g rfl (fun hp => (PV.move (v := v) rfl rfl)) ?_
   refine RG.g rfl (fun hp => (PV.field rfl Fo156_0 rfl)) ?_
   refine RG.g rfl (fun hp => (PV.load1 rfl Sc2 (gt' hp) (Rd.blk rfl))) ?_
   refine RG.g rfl (fun hp => (PV.field rfl Fo156_1 rfl)) ?_
   refine RG.g rfl (fun hp => (PV.load1 rfl Sc2 (gt' hp) (Rd.blk rfl))) ?_
   refine RG.gsC rfl rfl rfl rfl En256 (fun hp => ⟨_, (acons (gt' hp) (acons (gt' hp) (acons (gt' hp) anil))), l17Cel_s (Rs.up h2) hB ⟨rfl, rfl, rfl⟩⟩) ?_
   refine RG.g rfl (fun hp => (PV.mvB (.inl rfl) (gt' hp))) ?_
   refine RG.gs2 rfl rfl rfl (fun hp => (PV.move (v := u) rfl rfl)) (RG.gs2 rfl rfl rfl (fun hp => (PV.field rfl Fo156_0 rfl)) (RG.gs2 rfl rfl rfl (fun hp => (PV.load1 rfl Sc2 (gt' hp) (Rd.blk rfl))) (RG.gs2 rfl rfl rfl (fun hp => (PV.field rfl Fo156_1 rfl)) (RG.gs2 rfl rfl rfl (fun hp => (PV.load1 rfl Sc2 (gt' hp) (Rd.blk rfl))) ?_))))
   refine RG.gsC2 rfl rfl rfl rfl En256 (fun hp => ⟨_, (acons (gt' hp) (acons (gt' hp) (acons (gt' hp) anil))), l17Cel_s (Rs.up h1) hA ⟨rfl, rfl, rfl⟩⟩) ?_
   refine RG.g rfl (fun hp => (PV.pickA rfl (gt' hp) (fun hq => gt' (gandT hp hq)) rfl)) ?_
   refine RG.p (PV.pickO rfl rfl rfl (fun hq => gt' (geqF hq))) (RG.nil ?_)
   refine WP.cond rfl (fun h5 => ?_) fun h5 => ?_
   ·have h6 : gapE A B ver (gd outv39 i) = true := h5
    rw [if_pos h6, <- hout] at hf
    refine WP.region (RG.p (PV.move (v := q) rfl rfl) (RG.p (PV.move (v := v39) rfl rfl) (RG.ml rfl (RG.p (PV.idxS (v := v39) rfl Is50 rfl SlF.o rfl rfl (by omega)) (RG.p (PV.loadE rfl Ag101 rfl rfl (El.o (getG (by omega)))) ?_)))))
    refine RG.ot rfl (OT.bslice (F := rectT) (els := [_]) rfl El50 rfl (by decide) rfl (by decide) ⟨rfl, (Cl.c rfl), trivial⟩ fun v91 => ?_)
    refine RG.ot rfl (OT.append (v := q) (u := v91) (F := rectT) rfl El50 rfl (by decide) rfl rfl Rs.o (OneL.c (fun _ => rfl)) rfl (by first | omega | (simp <;> omega)) fun v92 => ?_)
    refine RG.p (PV.asg (v := v92) rfl rfl) (RG.nil (WP.region (RG.ml rfl (RG.p (PV.add rfl rfl rfl (by omega)) (RG.mr rfl (RG.nil ?_))))))
    exact ⟨rfl, i + 1, _, v92, ⟨by omega, hf.symm⟩, ⟨rfl, rfl, trivial⟩, ⟨rfl, rfl, rfl, rfl, trivial⟩, Cv.p, by omega⟩
   ·have h6 : ¬ gapE A B ver (gd outv39 i) = true := by rw [show gapE A B ver (gd outv39 i) = false from h5]; decide
    rw [if_neg h6, <- hout, List.append_nil] at hf
    refine WP.skip (WP.region (RG.ml rfl (RG.p (PV.add rfl rfl rfl (by omega)) (RG.mr rfl (RG.nil ?_)))))
    exact ⟨rfl, i + 1, _, q, ⟨by omega, hf.symm⟩, ⟨rfl, rfl, trivial⟩, ⟨rfl, rfl, rfl, rfl, trivial⟩, Cv.p, by omega⟩
  ·have h4 := odf h4
   rw [List.take_of_length_le (by omega)] at hout
   rw [hout]
   refine WP.exit (WP.sr (RG.p (PV.move (v := q) rfl rfl) (RG.p (PV.asg (v := q) rfl rfl) (RG.nil ?_))))
   exact WP.ret ⟨_, _, rv rfl rfl, Cv.p, k q outv39 houtv39⟩
structure GapsA (A B : List Bool) (out : List Rect) : Prop where
  len : out.length <= 12800
  run : ∀ r ∈ out, ∃ ver l k lo hi, isRun (notB (orZ A B)) ver l k lo hi ∧ gapE A B ver (lineR ver l lo hi) = true ∧ r = lineR ver l lo hi
  all : ∀ ver l k lo hi, isRun (notB (orZ A B)) ver l k lo hi -> gapE A B ver (lineR ver l lo hi) = true -> lineR ver l lo hi ∈ out
theorem GapsA.of {A B : List Bool} {a b : List Rect} (ha : RunsOf (notB (orZ A B)) false a) (hb : RunsOf (notB (orZ A B)) true b) : GapsA A B (a.filter (gapE A B false) ++ b.filter (gapE A B true)) := ⟨by
 have := ha.len; have := hb.len
 have := List.length_filter_le (gapE A B false) a; have := List.length_filter_le (gapE A B true) b
 rw [List.length_append]; omega, fun r hr => by
 rcases List.mem_append.1 hr with h | h
 ·obtain ⟨h1, h2⟩ := List.mem_filter.1 h
  obtain ⟨l, k, lo, hi, g1, rfl⟩ := ha.run r h1; exact ⟨false, l, k, lo, hi, g1, h2, rfl⟩
 ·obtain ⟨h1, h2⟩ := List.mem_filter.1 h
  obtain ⟨l, k, lo, hi, g1, rfl⟩ := hb.run r h1; exact ⟨true, l, k, lo, hi, g1, h2, rfl⟩, fun ver l k lo hi h1 h2 => by
 have hc := h1.all k h1.lk.1 h1.lk.2
 cases ver with
 | false =>
  obtain ⟨lo', hi', h3, h4⟩ := ha.all l k hc
  obtain ⟨rfl, rfl⟩ := h1.uniq h3
  exact List.mem_append_left _ (List.mem_filter.2 ⟨h4, h2⟩)
 | true =>
  obtain ⟨lo', hi', h3, h4⟩ := hb.all l k hc
  obtain ⟨rfl, rfl⟩ := h1.uniq h3
  exact List.mem_append_right _ (List.mem_filter.2 ⟨h4, h2⟩)⟩
theorem gapsAll_s {u v : Value} {A B : List Bool} (h1 : Rs G L boolT u A) (h2 : Rs G L boolT v B) (hA : A.length = 6400) (hB : B.length = 6400) (k : ∀ v' out, GapsA A B out -> R v' G (osl 101 rectT v' out :: L)) : CallT Tryz.prog 213 #[u, v] G L R := by
 refine CallT.enter (args := _) Tryz.func213 rfl rfl (by kernel_rfl) rfl ?_
 refine WP.sr (RG.p (PV.asg rfl rfl) (RG.nil (WP.sr (RG.p (PV.move (v := u) rfl rfl) (RG.p (PV.move (v := v) rfl rfl) ?_)))))
 refine RG.callF (vs := [u, v, _]) rfl rfl En239 rfl (betw_s (Rs.up h1) (Rs.up h2) hA hB (fun v7 outv7 houtv7 => have hlnv7 := houtv7.len; have hfav7 := Nat.le_trans (List.length_filter_le (gapE A B false) outv7) hlnv7; have hfbv7 := Nat.le_trans (List.length_filter_le (gapE A B true) outv7) hlnv7; ?_))
 refine RG.p (PV.move (v := u) rfl rfl) (RG.p (PV.move (v := v) rfl rfl) ?_)
 refine RG.callF (vs := [u, v, _]) rfl rfl En239 rfl (betw_s (Rs.up h1) (Rs.up h2) hA hB (fun v10 outv10 houtv10 => have hlnv10 := houtv10.len; have hfav10 := Nat.le_trans (List.length_filter_le (gapE A B false) outv10) hlnv10; have hfbv10 := Nat.le_trans (List.length_filter_le (gapE A B true) outv10) hlnv10; ?_))
 refine RG.ot rfl (OT.append (v := v7) (u := v10) (F := rectT) rfl El50 rfl (by decide) rfl rfl Rs.o (OneL.c (fun _ => rfl)) rfl (by first | omega | (simp <;> omega)) fun v11 => ?_)
 refine RG.p (PV.asg (v := v11) rfl rfl) (RG.nil ?_)
 exact WP.ret ⟨_, _, rv rfl rfl, Cv.p, k v11 _ (GapsA.of houtv7 houtv10)⟩
def Nigh (A B : List Bool) (w : Int) (y x : Nat) : Prop := ∃ ver lo hi, isRun (notB (orZ A B)) ver (lnI ver y x) (plI ver y x) lo hi ∧ gapE A B ver (lineR ver (lnI ver y x) lo hi) = true ∧ hi - lo < w
theorem near_iff {A B : List Bool} {out : List Rect} (h : GapsA A B out) {w : Int} {y x : Nat} : markC out w y x = true ↔ Nigh A B w y x := by
 simp only [markC, List.any_eq_true, Bool.and_eq_true, decide_eq_true_eq]
 constructor
 ·rintro ⟨r, hr, h1, h2⟩
  obtain ⟨ver, l, k, lo, hi, h3, h5, rfl⟩ := h.run r hr
  obtain ⟨rfl, h4⟩ := inR_line.1 h2
  rw [lenR_line] at h1
  exact ⟨ver, lo, hi, h3.at h4, h5, h1⟩
 ·rintro ⟨ver, lo, hi, h1, h5, h2⟩
  exact ⟨_, h.all ver _ _ _ _ h1 h5, by rw [lenR_line]; exact h2, inR_line.2 ⟨rfl, h1.lk⟩⟩
noncomputable def spaceL (xs : List Rect) (w : Int) : List Rect := if (isReg xs && okDist w) = true then canon (celL (Nigh (bits xs) (bits xs) w)) else []
noncomputable def betwL (xs ys : List Rect) (w : Int) : List Rect := if (isReg xs && isReg ys && okDist w) = true then canon (celL fun y x => Nigh (bits xs) (bits ys) w y x ∨ (gb (bits xs) y x = true ∧ gb (bits ys) y x = true)) else []
theorem gd_setE {α : Type} [Inhabited α] {xs : List α} {i : Nat} {a : α} (h : i < xs.length) : gd (xs.set i a) i = a := by unfold gd; simp [h]
theorem gd_setM {α : Type} [Inhabited α] {xs : List α} {i j : Nat} {a : α} (h : i ≠ j) : gd (xs.set i a) j = gd xs j := by unfold gd; rw [List.getElem?_set_ne h]
theorem markSpacing_s {v : Value} {xs : List Rect} {w : Int} (h1 : Rs G L rectT v xs) (k : ∀ v', R v' G (osl 101 rectT v' (spaceL xs w) :: L)) : CallT Tryz.prog 171 #[v, vi w] G L R := by
 refine CallT.enter (args := _) Tryz.func171 rfl rfl (by kernel_rfl) rfl ?_
 refine WP.sr (RG.p (PV.asg rfl rfl) (RG.nil (WP.seq (WP.sr (RG.p (PV.move (v := v) rfl rfl) ?_)))))
 refine RG.callF (vs := [v]) rfl rfl En54 rfl (l03Ok_s (Rs.up h1) ?_)
 refine RG.p (PV.not rfl rfl) (RG.bl rfl ?_)
 refine RG.g rfl (fun hp => (PV.mvI (.inl rfl) rfl)) ?_
 refine RG.gsC rfl rfl rfl rfl En210 (fun hp => ⟨_, (acons (gt' hp) anil), distance_s ⟨rfl, rfl, rfl⟩⟩) ?_
 refine RG.g rfl (fun hp => (PV.not rfl (gt' hp))) ?_
 refine RG.p (PV.pickO rfl rfl rfl (fun hq => gt' (geqF hq))) (RG.nil ?_)
 refine WP.cond rfl (fun h2 => ?_) fun h2 => ?_
 ·have e : spaceL xs w = [] := by rw [spaceL, if_neg]; cases h3 : isReg xs <;> cases h4 : okDist w <;> simp_all
  rw [e] at k
  refine WP.sr ?_
  refine RG.ot rfl (OT.bslice (F := rectT) (els := []) rfl El50 rfl (by decide) rfl (by decide) trivial fun v13 => ?_)
  refine RG.p (PV.asg (v := v13) rfl rfl) (RG.nil ?_)
  exact WP.ret ⟨_, _, rv rfl rfl, Cv.p, k v13⟩
 ·have h3 : isReg xs = true ∧ okDist w = true := by cases h3 : isReg xs <;> cases h4 : okDist w <;> simp_all
  have hreg := h3.1
  refine WP.skip (WP.sr (RG.p (PV.move (v := v) rfl rfl) ?_))
  refine RG.callF (vs := [v]) rfl rfl En104 rfl (l03Bits_s (Rs.up h1) (fun i hi => valid_get (isReg_valid hreg) hi) (fun v15 => ?_))
  refine RG.p (PV.move (v := v) rfl rfl) ?_
  refine RG.callF (vs := [v]) rfl rfl En104 rfl (l03Bits_s (Rs.up h1) (fun i hi => valid_get (isReg_valid hreg) hi) (fun v17 => ?_))
  refine RG.callF (vs := [v15, v17]) rfl rfl En213 rfl (gapsAll_s Rs.o Rs.o (bits_length _) (bits_length _) (fun v18 outv18 houtv18 => have hlnv18 := houtv18.len; ?_))
  refine RG.ml rfl ?_
  refine RG.callF (vs := [v18, _]) rfl rfl En211 rfl (mark_s Rs.o (fun r hr => by obtain ⟨ver, l, k, lo, hi, g1, _, rfl⟩ := houtv18.run r hr; exact lineR_valid g1) (by omega) (fun v20 Dv20 hDv20 hgv20 => ?_))
  refine RG.callF (vs := [v20]) rfl rfl En103 rfl (l03Canon_s Rs.o hDv20 (fun v21 => ?_))
  refine RG.p (PV.asg (v := v21) rfl rfl) (RG.nil ?_)
  refine WP.ret ?_
  have e : spaceL xs w = canon Dv20 := by rw [spaceL, if_pos (by rw [h3.1, h3.2]; rfl), celL_eq (P := Nigh (bits xs) (bits xs) w) hDv20 (fun y x hy hx => by rw [hgv20 y x hy hx, near_iff houtv18])]
  rw [e] at k
  exact ⟨_, _, rv rfl rfl, Cv.p, k v21⟩
theorem markBetween_s {u v : Value} {xs ys : List Rect} {w : Int} (h1 : Rs G L rectT u xs) (h2 : Rs G L rectT v ys) (k : ∀ v', R v' G (osl 101 rectT v' (betwL xs ys w) :: L)) : CallT Tryz.prog 172 #[u, v, vi w] G L R := by
 refine CallT.enter (args := _) Tryz.func172 rfl rfl (by kernel_rfl) rfl ?_
 refine WP.sr (RG.p (PV.asg rfl rfl) (RG.nil (WP.seq (WP.sr (RG.p (PV.move (v := u) rfl rfl) ?_)))))
 refine RG.callF (vs := [u]) rfl rfl En54 rfl (l03Ok_s (Rs.up h1) ?_)
 refine RG.p (PV.not rfl rfl) (RG.bl rfl ?_)
 refine RG.g rfl (fun hp => (PV.move (v := v) rfl rfl)) ?_
 refine RG.gsC rfl rfl rfl rfl En54 (fun hp => ⟨_, (acons (gt' hp) anil), l03Ok_s (Rs.up h2) ⟨rfl, rfl, rfl⟩⟩) ?_
 refine RG.g rfl (fun hp => (PV.not rfl (gt' hp))) ?_
 refine RG.p (PV.pickO rfl rfl rfl (fun hq => gt' (geqF hq))) (RG.bl rfl ?_)
 refine RG.g rfl (fun hp => (PV.mvI (.inl rfl) rfl)) ?_
 refine RG.gsC rfl rfl rfl rfl En210 (fun hp => ⟨_, (acons (gt' hp) anil), distance_s ⟨rfl, rfl, rfl⟩⟩) ?_
 refine RG.g rfl (fun hp => (PV.not rfl (gt' hp))) ?_
 refine RG.p (PV.pickO rfl rfl rfl (fun hq => gt' (geqF hq))) (RG.nil ?_)
 refine WP.cond rfl (fun h3 => ?_) fun h3 => ?_
 ·have e : betwL xs ys w = [] := by rw [betwL, if_neg]; cases g1 : isReg xs <;> cases g2 : isReg ys <;> cases g4 : okDist w <;> simp_all
  rw [e] at k
  refine WP.sr ?_
  refine RG.ot rfl (OT.bslice (F := rectT) (els := []) rfl El50 rfl (by decide) rfl (by decide) trivial fun v24 => ?_)
  refine RG.p (PV.asg (v := v24) rfl rfl) (RG.nil ?_)
  exact WP.ret ⟨_, _, rv rfl rfl, Cv.p, k v24⟩
 ·have h4 : isReg xs = true ∧ isReg ys = true ∧ okDist w = true := by cases g1 : isReg xs <;> cases g2 : isReg ys <;> cases g4 : okDist w <;> simp_all
  have hreg := h4.1
  have hregy := h4.2.1
  refine WP.skip (WP.sr (RG.p (PV.move (v := u) rfl rfl) ?_))
  refine RG.callF (vs := [u]) rfl rfl En104 rfl (l03Bits_s (Rs.up h1) (fun i hi => valid_get (isReg_valid hreg) hi) (fun v26 => ?_))
  refine RG.p (PV.move (v := v) rfl rfl) ?_
  refine RG.callF (vs := [v]) rfl rfl En104 rfl (l03Bits_s (Rs.up h2) (fun i hi => valid_get (isReg_valid hregy) hi) (fun v28 => ?_))
  refine RG.p (PV.asg (v := v26) rfl rfl) (RG.p (PV.asg (v := v28) rfl rfl) (RG.nil (WP.sr (RG.p (PV.move (v := v26) rfl rfl) (RG.p (PV.move (v := v28) rfl rfl) ?_)))))
  refine RG.callF (vs := [v26, v28]) rfl rfl En213 rfl (gapsAll_s Rs.o Rs.o (bits_length _) (bits_length _) (fun v31 outv31 houtv31 => have hlnv31 := houtv31.len; ?_))
  refine RG.ml rfl ?_
  refine RG.callF (vs := [v31, _]) rfl rfl En211 rfl (mark_s Rs.o (fun r hr => by obtain ⟨ver, l, k, lo, hi, g1, _, rfl⟩ := houtv31.run r hr; exact lineR_valid g1) (by omega) (fun v33 Dv33 hDv33 hgv33 => ?_))
  refine RG.p (PV.asg (v := v33) rfl rfl) (RG.nil (WP.seq (WP.sr (RG.mr rfl (RG.nil (WP.block ?_))))))
  refine WP.loop2 [7, 8, 9] (fun (i : Nat) (E : List Bool) => i <= 6400 ∧ E.length = 6400 ∧ (∀ j, j < i -> gd E j = (gd Dv33 j || (gd (bits xs) j && gd (bits ys) j))) ∧ (∀ j, i <= j -> gd E j = gd Dv33 j)) (fun (i : Nat) (E : List Bool) => [(10, vi i)]) (fun (i : Nat) (E : List Bool) => osl 4 boolT v33 E :: osl 4 boolT v26 (bits xs) :: osl 4 boolT v28 (bits ys) :: L) (fun (i : Nat) (E : List Bool) => 6400 - i) 0 Dv33 ⟨by omega, hDv33, fun j h => by omega, fun j _ => rfl⟩ ⟨rfl, trivial⟩ Cv.p ?_
  rintro i E τ ⟨hi, hE, hE1, hE2⟩
  refine WP.seq (WP.sr (RG.ml rfl (RG.p (PV.move (v := v33) rfl rfl) (RG.p (PV.len (v := v33) rfl Tryz.underlying148 rfl SlF.o) (RG.p (PV.lss rfl rfl rfl) (RG.nil ?_))))))
  have hbx := bits_length xs
  have hby := bits_length ys
  refine WP.cond rfl (fun h5 => ?_) fun h5 => ?_
  ·have h5 := odt h5
   have hs1 : ∀ j, j < i + 1 -> gd (E.set i (gd E i || (gd (bits xs) i && gd (bits ys) i))) j = (gd Dv33 j || (gd (bits xs) j && gd (bits ys) j)) := fun j hj => by
    by_cases c : j = i
    ·subst c; rw [gd_setE (by omega), hE2 j (Nat.le_refl _)]
    ·rw [gd_setM (fun e => c e.symm)]; exact hE1 j (by omega)
   have hs2 : ∀ j, i + 1 <= j -> gd (E.set i (gd E i || (gd (bits xs) i && gd (bits ys) i))) j = gd Dv33 j := fun j hj => by rw [gd_setM (by omega)]; exact hE2 j (by omega)
   refine WP.skip (WP.seq (WP.block (WP.region (RG.p (PV.move (v := v33) rfl rfl) (RG.ml rfl (RG.p (PV.move (v := v33) rfl rfl) (RG.ml rfl (RG.p (PV.idxS (v := v33) rfl Is148 rfl SlF.o rfl rfl (by omega)) (RG.p (PV.loadE1 rfl Sc4 rfl rfl (El.o (getG (by omega))) rfl) (RG.bl rfl ?_))))))))))
   refine RG.g rfl (fun hp => (PV.move (v := v26) rfl rfl)) ?_
   refine RG.g rfl (fun hp => (PV.mvI (.inl rfl) rfl)) ?_
   refine RG.g rfl (fun hp => (PV.idxS (v := v26) rfl Is148 (gt' hp) SlF.o (gt' hp) rfl (by first | omega | (simp at hp; omega)))) ?_
   refine RG.g rfl (fun hp => (PV.loadE1 rfl Sc4 (gt' hp) rfl (El.o (getG (by first | omega | (simp at hp; omega)))) rfl)) ?_
   refine RG.g rfl (fun hp => (PV.mvB (.inl rfl) (gt' hp))) ?_
   refine RG.gs2 rfl rfl rfl (fun hp => (PV.move (v := v28) rfl rfl)) (RG.gs2 rfl rfl rfl (fun hp => (PV.mvI (.inl rfl) rfl)) (RG.gs2 rfl rfl rfl (fun hp => (PV.idxS (v := v28) rfl Is148 (gt' hp) SlF.o (gt' hp) rfl (by first | omega | (simp at hp; omega)))) (RG.gs2 rfl rfl rfl (fun hp => (PV.loadE1 rfl Sc4 (gt' hp) rfl (El.o (getG (by first | omega | (simp at hp; omega)))) rfl)) ?_)))
   refine RG.g rfl (fun hp => (PV.pickA rfl (gt' hp) (fun hq => gt' (gandT hp hq)) rfl)) ?_
   refine RG.p (PV.pickO rfl rfl rfl (fun hq => gt' (geqF hq))) (RG.p (PV.idxS (v := v33) rfl Is148 rfl SlF.o rfl rfl (by omega)) ?_)
   refine RG.ot rfl (OT.storeE (F := boolT) rfl Sz4 rfl rfl rfl (Cl.c rfl) (OneC.c rfl) (by omega) ?_)
   refine RG.nil (WP.region (RG.ml rfl (RG.p (PV.add rfl rfl rfl (by omega)) (RG.mr rfl (RG.nil ?_)))))
   exact ⟨rfl, i + 1, (E.set i (gd E i || (gd (bits xs) i && gd (bits ys) i))), ⟨by omega, by simpa using hE, hs1, hs2⟩, ⟨rfl, trivial⟩, ⟨rfl, rfl, rfl, trivial⟩, Cv.p, by omega⟩
  ·have h5 := odf h5
   obtain rfl : i = 6400 := by omega
   refine WP.exit (WP.sr (RG.p (PV.move (v := v33) rfl rfl) ?_))
   refine RG.callF (vs := [v33]) rfl rfl En103 rfl (l03Canon_s Rs.o hE (fun v60 => ?_))
   refine RG.p (PV.asg (v := v60) rfl rfl) (RG.nil ?_)
   refine WP.ret ?_
   have e : betwL xs ys w = canon E := by
    rw [betwL, if_pos (by rw [h4.1, h4.2.1, h4.2.2]; rfl), celL_eq (P := fun y x => Nigh (bits xs) (bits ys) w y x ∨ (gb (bits xs) y x = true ∧ gb (bits ys) y x = true)) hE (fun y x hy hx => by
     have := hE1 (y * 80 + x) (by omega)
     rw [<- near_iff houtv31, <- hgv33 y x hy hx]
     unfold gb; rw [this]; simp)]
   rw [e] at k
   exact ⟨_, _, rv rfl rfl, Cv.p, k v60⟩
def ValidL (xs : List Rect) : Prop := ∀ r ∈ xs, validRect r = true
theorem len_bd {r : Rect} (hv : validRect r = true) : 0 <= lenR r ∧ lenR r <= 6400 := by
 have h := validR_iff.1 hv
 exact ⟨Int.mul_nonneg (by omega) (by omega), Int.le_trans (Int.mul_le_mul (by omega : r.x1 - r.x0 <= 80) (by omega : r.y1 - r.y0 <= 80) (by omega) (by omega)) (by decide)⟩
theorem mulP_bd {a b : Int} (ha : 1 <= a ∧ a <= 100) (hb : 0 <= b ∧ b <= 6400) : 0 <= a * b ∧ a * b <= 640000 :=
 ⟨Int.mul_nonneg (by omega) (by omega), Int.le_trans (Int.mul_le_mul ha.2 hb.2 (by omega) (by omega)) (by decide)⟩
def Is (W : List Bool) (P : Nat -> Nat -> Prop) : Prop := W.length = 6400 ∧ ∀ v u : Nat, v < 80 -> u < 80 -> (gb W v u = true ↔ P v u)
theorem Is.congr {W : List Bool} {P Q : Nat -> Nat -> Prop} (h : Is W P) (e : ∀ v u : Nat, v < 80 -> u < 80 -> (P v u ↔ Q v u)) : Is W Q := ⟨h.1, fun v u hv hu => (h.2 v u hv hu).trans (e v u hv hu)⟩
theorem Is.set {W : List Bool} {P : Nat -> Nat -> Prop} (h : Is W P) {Y X : Nat} (hy : Y < 80) (hx : X < 80) : Is (W.set (Y * 80 + X) true) fun v u => P v u ∨ (v = Y ∧ u = X) := ⟨by simpa using h.1, fun v u hv hu => by
 rw [gb_set' h.1 hy hx hu]
 by_cases c : v = Y ∧ u = X
 ·rw [if_pos c]; simp [c]
 ·rw [if_neg c, h.2 v u hv hu]; simp [c]⟩
theorem Is.none {P : Nat -> Nat -> Prop} (n : Nat) (hn : n = 6400) (h : ∀ v u : Nat, v < 80 -> u < 80 -> ¬ P v u) : Is (List.replicate n false) P := ⟨by simp [hn], fun v u hv hu => by rw [gb_repf]; simp [h v u hv hu]⟩
def N1 (S : List Bool) (c y x : Int) (v u : Nat) : Prop := ∃ x' : Nat, x' < 80 ∧ gb S v x' = true ∧ (u : Int) - x' <= c ∧ (x' : Int) - u <= c ∧ ((v : Int) - 40 < y ∨ ((v : Int) - 40 = y ∧ (x' : Int) - 40 < x))
def N1d (S : List Bool) (c y x d : Int) (v u : Nat) : Prop := N1 S c y x v u ∨ ((v : Int) - 40 = y ∧ gb S v (x + 40).toNat = true ∧ x - c <= (u : Int) - 40 ∧ (u : Int) - 40 < x + d)
theorem N1.line {S : List Bool} {c y : Int} {v u : Nat} : N1 S c y 40 v u ↔ N1 S c (y + 1) (-40) v u := by
 constructor
 ·rintro ⟨x', h1, h2, h3, h4, h5⟩; exact ⟨x', h1, h2, h3, h4, by omega⟩
 ·rintro ⟨x', h1, h2, h3, h4, h5⟩; exact ⟨x', h1, h2, h3, h4, by omega⟩
theorem N1d.start {S : List Bool} {c y x : Int} {v u : Nat} : N1 S c y x v u ↔ N1d S c y x (-c) v u := by
 constructor
 ·exact .inl
 ·rintro (h | ⟨h1, h2, h3, h4⟩)
  ·exact h
  ·omega
theorem N1d.stop {S : List Bool} {c y x d : Int} {v u : Nat} (hx : -40 <= x ∧ x < 40) (hd : d = c + 1 ∨ ((v : Int) - 40 = y -> gb S v (x + 40).toNat = false)) (hdc : d <= c + 1) : N1d S c y x d v u ↔ N1 S c y (x + 1) v u := by
 constructor
 ·rintro (⟨x', h1, h2, h3, h4, h5⟩ | ⟨h1, h2, h3, h4⟩)
  ·exact ⟨x', h1, h2, h3, h4, by omega⟩
  ·exact ⟨(x + 40).toNat, by omega, h2, by omega, by omega, by omega⟩
 ·rintro ⟨x', h1, h2, h3, h4, h5⟩
  by_cases e : (v : Int) - 40 = y ∧ (x' : Int) - 40 = x
  ·have e2 : x' = (x + 40).toNat := by omega
   rcases hd with hd | hd
   ·subst e2; exact .inr ⟨e.1, h2, by omega, by omega⟩
   ·rw [e2, hd e.1] at h2; cases h2
  ·exact .inl ⟨x', h1, h2, h3, h4, by omega⟩
theorem N1d.put {S : List Bool} {c y x d : Int} {v u : Nat} (hy : -40 <= y) (hd : -c <= d ∧ d <= c) (hx : -40 <= x + d) (hs : gb S (y + 40).toNat (x + 40).toNat = true) : (N1d S c y x d v u ∨ (v = (y + 40).toNat ∧ u = (x + d + 40).toNat)) ↔ N1d S c y x (d + 1) v u := by
 constructor
 ·rintro ((h | ⟨h1, h2, h3, h4⟩) | ⟨rfl, rfl⟩)
  ·exact .inl h
  ·exact .inr ⟨h1, h2, h3, by omega⟩
  ·exact .inr ⟨by omega, hs, by omega, by omega⟩
 ·rintro (h | ⟨h1, h2, h3, h4⟩)
  ·exact .inl (.inl h)
  ·by_cases e : (u : Int) - 40 = x + d
   ·exact .inr ⟨by omega, by omega⟩
   ·exact .inl (.inr ⟨h1, h2, h3, by omega⟩)
theorem N1d.out {S : List Bool} {c y x d : Int} {v u : Nat} (hu : u < 80) (hx : ¬ (-40 <= x + d ∧ x + d < 40)) : N1d S c y x d v u ↔ N1d S c y x (d + 1) v u := by
 constructor
 ·rintro (h | ⟨h1, h2, h3, h4⟩)
  ·exact .inl h
  ·exact .inr ⟨h1, h2, h3, by omega⟩
 ·rintro (h | ⟨h1, h2, h3, h4⟩)
  ·exact .inl h
  ·exact .inr ⟨h1, h2, h3, by omega⟩
def N2 (W : List Bool) (c y x : Int) (v u : Nat) : Prop := ∃ y' : Nat, y' < 80 ∧ gb W y' u = true ∧ (v : Int) - y' <= c ∧ (y' : Int) - v <= c ∧ ((y' : Int) - 40 < y ∨ ((y' : Int) - 40 = y ∧ (u : Int) - 40 < x))
def N2d (W : List Bool) (c y x d : Int) (v u : Nat) : Prop := N2 W c y x v u ∨ ((u : Int) - 40 = x ∧ gb W (y + 40).toNat u = true ∧ y - c <= (v : Int) - 40 ∧ (v : Int) - 40 < y + d)
theorem N2.line {S : List Bool} {c y : Int} {v u : Nat} (hu : u < 80) : N2 S c y 40 v u ↔ N2 S c (y + 1) (-40) v u := by
 constructor
 ·rintro ⟨x', h1, h2, h3, h4, h5⟩; exact ⟨x', h1, h2, h3, h4, by omega⟩
 ·rintro ⟨x', h1, h2, h3, h4, h5⟩; exact ⟨x', h1, h2, h3, h4, by omega⟩
theorem N2d.start {S : List Bool} {c y x : Int} {v u : Nat} : N2 S c y x v u ↔ N2d S c y x (-c) v u := by
 constructor
 ·exact .inl
 ·rintro (h | ⟨h1, h2, h3, h4⟩)
  ·exact h
  ·omega
theorem N2d.stop {S : List Bool} {c y x d : Int} {v u : Nat} (hy : -40 <= y ∧ y < 40) (hd : d = c + 1 ∨ ((u : Int) - 40 = x -> gb S (y + 40).toNat u = false)) (hdc : d <= c + 1) : N2d S c y x d v u ↔ N2 S c y (x + 1) v u := by
 constructor
 ·rintro (⟨x', h1, h2, h3, h4, h5⟩ | ⟨h1, h2, h3, h4⟩)
  ·exact ⟨x', h1, h2, h3, h4, by omega⟩
  ·exact ⟨(y + 40).toNat, by omega, h2, by omega, by omega, by omega⟩
 ·rintro ⟨x', h1, h2, h3, h4, h5⟩
  by_cases e : (u : Int) - 40 = x ∧ (x' : Int) - 40 = y
  ·have e2 : x' = (y + 40).toNat := by omega
   rcases hd with hd | hd
   ·subst e2; exact .inr ⟨e.1, h2, by omega, by omega⟩
   ·rw [e2, hd e.1] at h2; cases h2
  ·exact .inl ⟨x', h1, h2, h3, h4, by omega⟩
theorem N2d.put {S : List Bool} {c y x d : Int} {v u : Nat} (hx : -40 <= x) (hd : -c <= d ∧ d <= c) (hy : -40 <= y + d) (hs : gb S (y + 40).toNat (x + 40).toNat = true) : (N2d S c y x d v u ∨ (v = (y + d + 40).toNat ∧ u = (x + 40).toNat)) ↔ N2d S c y x (d + 1) v u := by
 constructor
 ·rintro ((h | ⟨h1, h2, h3, h4⟩) | ⟨rfl, rfl⟩)
  ·exact .inl h
  ·exact .inr ⟨h1, h2, h3, by omega⟩
  ·exact .inr ⟨by omega, hs, by omega, by omega⟩
 ·rintro (h | ⟨h1, h2, h3, h4⟩)
  ·exact .inl (.inl h)
  ·by_cases e : (v : Int) - 40 = y + d
   ·exact .inr ⟨by omega, by omega⟩
   ·exact .inl (.inr ⟨h1, h2, h3, by omega⟩)
theorem N2d.out {S : List Bool} {c y x d : Int} {v u : Nat} (hv : v < 80) (hy : ¬ (-40 <= y + d ∧ y + d < 40)) : N2d S c y x d v u ↔ N2d S c y x (d + 1) v u := by
 constructor
 ·rintro (h | ⟨h1, h2, h3, h4⟩)
  ·exact .inl h
  ·exact .inr ⟨h1, h2, h3, by omega⟩
 ·rintro (h | ⟨h1, h2, h3, h4⟩)
  ·exact .inl h
  ·exact .inr ⟨h1, h2, h3, by omega⟩
theorem near_grow {S W E : List Bool} {c : Int} (hW : Is W (N1 S c 40 (-40))) (hE : Is E (N2 W c 40 (-40))) : E = growB S c := gb_ext hE.1 (growB_len _ _) fun y x hy hx => by
 rw [Bool.eq_iff_iff, hE.2 y x hy hx, growB_iff hy hx]
 constructor
 ·rintro ⟨y', h1, h2, h3, h4, _⟩
  obtain ⟨x', g1, g2, g3, g4, _⟩ := (hW.2 y' x h1 hx).1 h2
  exact ⟨y', x', h1, g1, by omega, by omega, by omega, by omega, g2⟩
 ·rintro ⟨y', x', h1, h2, h3, h4, h5, h6, h7⟩
  exact ⟨y', h1, (hW.2 y' x h1 hx).2 ⟨x', h2, h7, by omega, by omega, by omega⟩, by omega, by omega, by omega⟩
theorem near_s {v : Value} {S : List Bool} {c : Int} (h1 : Rs G L boolT v S) (hS : S.length = 6400) (hc : 0 <= c ∧ c <= 8) (k : ∀ v', R v' G (osl 4 boolT v' (growB S c) :: L)) : CallT Tryz.prog 214 #[v, vi c] G L R := by
 refine CallT.enter (args := _) Tryz.func214 rfl rfl (by kernel_rfl) rfl ?_
 refine WP.sr (RG.p (PV.asg rfl rfl) (RG.nil (WP.sr (RG.p (PV.move (v := v) rfl rfl) (RG.p (PV.len (v := v) rfl Tryz.underlying148 rfl (SlF.r h1)) ?_)))))
 refine RG.ot rfl (OT.make (F := boolT) (a0 := false) rfl El148 rfl (by decide) rfl rfl (by omega) (by omega) fun v15 => ?_)
 refine RG.p (PV.asg (v := v15) rfl rfl) (RG.nil (WP.sr (RG.p (PV.move (v := v) rfl rfl) (RG.p (PV.len (v := v) rfl Tryz.underlying148 rfl (SlF.r h1)) ?_))))
 refine RG.ot rfl (OT.make (F := boolT) (a0 := false) rfl El148 rfl (by decide) rfl rfl (by omega) (by omega) fun v18 => ?_)
 refine RG.p (PV.asg (v := v18) rfl rfl) (RG.nil (WP.seq (WP.sr (RG.mr rfl (RG.nil (WP.block ?_))))))
 refine WP.loop2 [0, 1, 5, 6] (fun (y : Int) (W : List Bool) => (-40 <= y ∧ y <= 40) ∧ Is W (N1 S c y (-40))) (fun (y : Int) (W : List Bool) => [(7, vi y)]) (fun (y : Int) (W : List Bool) => osl 4 boolT v15 W :: osl 4 boolT v18 (List.replicate S.length false) :: L) (fun (y : Int) (W : List Bool) => (40 - y).toNat) (-40) (List.replicate S.length false) ⟨by omega, Is.none _ hS fun v u hv hu => by rintro ⟨x', h1, h2, h3, h4, h5⟩; omega⟩ ⟨rfl, trivial⟩ Cv.p ?_
 rintro y W τ ⟨hy, hW⟩
 refine WP.seq (WP.sr (RG.ml rfl (RG.p (PV.lss rfl rfl rfl) (RG.nil ?_))))
 have hWl := hW.1
 refine WP.cond rfl (fun h2 => ?_) fun h2 => ?_
 ·have h2 := odt h2
  refine WP.skip (WP.seq (WP.block (WP.sr (RG.mr rfl (RG.nil (WP.block ?_))))))
  refine WP.loop2 [0, 1, 5, 6, 7] (fun (x : Int) (W1 : List Bool) => (-40 <= x ∧ x <= 40) ∧ Is W1 (N1 S c y x)) (fun (x : Int) (W1 : List Bool) => [(8, vi x)]) (fun (x : Int) (W1 : List Bool) => osl 4 boolT v15 W1 :: osl 4 boolT v18 (List.replicate S.length false) :: L) (fun (x : Int) (W1 : List Bool) => (40 - x).toNat) (-40) W ⟨by omega, hW⟩ ⟨rfl, trivial⟩ Cv.p ?_
  rintro x W1 τ1 ⟨hx, hW1⟩
  refine WP.seq (WP.sr (RG.ml rfl (RG.p (PV.lss rfl rfl rfl) (RG.nil ?_))))
  have hWl1 := hW1.1
  refine WP.cond rfl (fun h3 => ?_) fun h3 => ?_
  ·have h3 := odt h3
   have hat := at_eq (x := x) (y := y) (by omega) (by omega)
   refine WP.skip (WP.seq (WP.block (WP.sr (RG.ml rfl (RG.p (PV.neg rfl rfl (by omega)) (RG.mr rfl (RG.nil (WP.block ?_))))))))
   refine WP.loop2 [0, 1, 5, 6, 7, 8] (fun (d : Int) (W2 : List Bool) => (-c <= d ∧ d <= c + 1) ∧ Is W2 (N1d S c y x d)) (fun (d : Int) (W2 : List Bool) => [(9, vi d)]) (fun (d : Int) (W2 : List Bool) => osl 4 boolT v15 W2 :: osl 4 boolT v18 (List.replicate S.length false) :: L) (fun (d : Int) (W2 : List Bool) => (c + 1 - d).toNat) (-c) W1 ⟨by omega, hW1.congr fun v u _ _ => N1d.start⟩ ⟨rfl, trivial⟩ Cv.p ?_
   rintro d W2 τ2 ⟨hd, hW2⟩
   refine WP.seq (WP.sr (RG.ml rfl (RG.ml rfl (RG.p (PV.leq rfl rfl rfl) (RG.bl rfl ?_)))))
   refine RG.g rfl (fun hp => (PV.move (v := v) rfl rfl)) ?_
   refine RG.g rfl (fun hp => (PV.mvI (.inl rfl) rfl)) ?_
   refine RG.g rfl (fun hp => (PV.mvI (.inl rfl) rfl)) ?_
   refine RG.gsC rfl rfl rfl rfl En240 (fun hp => ⟨_, (acons (gt' hp) (acons (gt' hp) anil)), l17At_s (by first | omega | (simp at hp; omega)) (by first | omega | (simp at hp; omega)) ⟨rfl, rfl, rfl⟩⟩) ?_
   refine RG.g rfl (fun hp => (PV.idxS (j := ((y + 40) * 80 + x + 40).toNat) (v := v) rfl Is148 (gt' hp) (SlF.r h1) (gt' hp) (by first | omega | (simp at hp; omega)) (by first | omega | (simp at hp; omega)))) ?_
   refine RG.g rfl (fun hp => (PV.loadE1 rfl Sc4 (gt' hp) rfl (El.r h1 (getG (by first | omega | (simp at hp; omega)))) rfl)) ?_
   refine RG.p (PV.pickA rfl rfl (fun hq => gt' (geqT hq)) rfl) (RG.nil ?_)
   have hWl2 := hW2.1
   refine WP.cond rfl (fun h4 => ?_) fun h4 => ?_
   ·have h4' : d <= c ∧ gb S (y + 40).toNat (x + 40).toNat = true := by rw [gb, <- hat]; simpa using h4
    have h4 := h4'.1
    refine WP.skip (WP.seq (WP.block (WP.sr (RG.ml rfl (RG.ml rfl (RG.p (PV.add rfl rfl rfl (by omega)) (RG.ml rfl ?_)))))))
    refine RG.callF (vs := [_, _]) rfl rfl En241 rfl (l17Inside_s ?_)
    refine RG.nil ?_
    refine WP.cond rfl (fun h5 => ?_) fun h5 => ?_
    ·have h5 : (-40 <= x + d ∧ x + d < 40) ∧ -40 <= y ∧ y < 40 := by simpa using h5
     have hat2 := at_eq (x := x + d) (y := y) (by omega) (by omega)
     refine WP.region (RG.p (PV.move (v := v15) rfl rfl) (RG.ml rfl (RG.ml rfl (RG.p (PV.add rfl rfl rfl (by omega)) (RG.ml rfl ?_)))))
     refine RG.callF (vs := [_, _]) rfl rfl En240 rfl (l17At_s (by first | omega | (simp at hp; omega)) (by first | omega | (simp at hp; omega)) ?_)
     refine RG.p (PV.idxS (j := ((y + 40) * 80 + (x + d) + 40).toNat) (v := v15) rfl Is148 rfl SlF.o rfl (by first | omega | (simp only [List.length_set]; omega)) (by first | omega | (simp only [List.length_set]; omega))) ?_
     refine RG.ot rfl (OT.storeE (F := boolT) rfl Sz4 rfl rfl rfl (Cl.c rfl) (OneC.c rfl) (by first | omega | (simp only [List.length_set]; omega)) ?_)
     refine RG.nil (WP.region (RG.ml rfl (RG.p (PV.add rfl rfl rfl (by omega)) (RG.mr rfl (RG.nil ?_)))))
     exact ⟨rfl, d + 1, (W2.set ((y + 40) * 80 + (x + d) + 40).toNat true), ⟨by omega, by rw [hat2]; exact (hW2.set (by omega) (by omega)).congr fun v u _ _ => N1d.put (by omega) (by omega) (by omega) h4'.2⟩, ⟨rfl, trivial⟩, ⟨rfl, rfl, rfl, rfl, rfl, rfl, trivial⟩, Cv.p, by omega⟩
    ·have h5 : ¬ (-40 <= x + d ∧ x + d < 40) := by
      intro h6
      have h7 : ((-40 <= x + d ∧ x + d < 40) ∧ -40 <= y ∧ y < 40) := ⟨h6, by omega⟩
      simp [h7.1.1, h7.1.2, h7.2.1, h7.2.2] at h5
     refine WP.skip (WP.region (RG.ml rfl (RG.p (PV.add rfl rfl rfl (by omega)) (RG.mr rfl (RG.nil ?_)))))
     exact ⟨rfl, d + 1, W2, ⟨by omega, hW2.congr fun v u _ hu => N1d.out hu h5⟩, ⟨rfl, trivial⟩, ⟨rfl, rfl, rfl, rfl, rfl, rfl, trivial⟩, Cv.p, by omega⟩
   ·have h4' : d = c + 1 ∨ gb S (y + 40).toNat (x + 40).toNat = false := by
     by_cases c1 : d <= c
     ·right; rw [gb, <- hat]; simpa [c1] using h4
     ·left; omega
    refine WP.exit (WP.region (RG.ml rfl (RG.p (PV.add rfl rfl rfl (by omega)) (RG.mr rfl (RG.nil ?_)))))
    exact ⟨rfl, x + 1, W2, ⟨by omega, hW2.congr fun v u _ _ => N1d.stop (by omega) (h4'.imp id fun e hv => by rw [show v = (y + 40).toNat by omega]; exact e) (by omega)⟩, ⟨rfl, trivial⟩, ⟨rfl, rfl, rfl, rfl, rfl, trivial⟩, Cv.p, by omega⟩
  ·obtain rfl : x = 40 := by have h3 := odf h3; omega
   refine WP.exit (WP.region (RG.ml rfl (RG.p (PV.add rfl rfl rfl (by omega)) (RG.mr rfl (RG.nil ?_)))))
   exact ⟨rfl, y + 1, W1, ⟨by omega, hW1.congr fun v u _ _ => N1.line⟩, ⟨rfl, trivial⟩, ⟨rfl, rfl, rfl, rfl, trivial⟩, Cv.p, by omega⟩
 ·obtain rfl : y = 40 := by have h2 := odf h2; omega
  refine WP.exit (WP.seq (WP.sr (RG.mr rfl (RG.nil (WP.block ?_)))))
  refine WP.loop2 [1, 5, 6] (fun (y : Int) (E : List Bool) => (-40 <= y ∧ y <= 40) ∧ Is E (N2 W c y (-40))) (fun (y : Int) (E : List Bool) => [(10, vi y)]) (fun (y : Int) (E : List Bool) => osl 4 boolT v15 W :: osl 4 boolT v18 E :: L) (fun (y : Int) (E : List Bool) => (40 - y).toNat) (-40) (List.replicate S.length false) ⟨by omega, Is.none _ hS fun v u hv hu => by rintro ⟨x', h1, h2, h3, h4, h5⟩; omega⟩ ⟨rfl, trivial⟩ Cv.p ?_
  rintro y E τ3 ⟨hy2, hE⟩
  refine WP.seq (WP.sr (RG.ml rfl (RG.p (PV.lss rfl rfl rfl) (RG.nil ?_))))
  have hEl := hE.1
  refine WP.cond rfl (fun h2 => ?_) fun h2 => ?_
  ·have h2 := odt h2
   refine WP.skip (WP.seq (WP.block (WP.sr (RG.mr rfl (RG.nil (WP.block ?_))))))
   refine WP.loop2 [1, 5, 6, 10] (fun (x : Int) (E1 : List Bool) => (-40 <= x ∧ x <= 40) ∧ Is E1 (N2 W c y x)) (fun (x : Int) (E1 : List Bool) => [(11, vi x)]) (fun (x : Int) (E1 : List Bool) => osl 4 boolT v15 W :: osl 4 boolT v18 E1 :: L) (fun (x : Int) (E1 : List Bool) => (40 - x).toNat) (-40) E ⟨by omega, hE⟩ ⟨rfl, trivial⟩ Cv.p ?_
   rintro x E1 τ1 ⟨hx, hE1⟩
   refine WP.seq (WP.sr (RG.ml rfl (RG.p (PV.lss rfl rfl rfl) (RG.nil ?_))))
   have hEl1 := hE1.1
   refine WP.cond rfl (fun h3 => ?_) fun h3 => ?_
   ·have h3 := odt h3
    have hat := at_eq (x := x) (y := y) (by omega) (by omega)
    refine WP.skip (WP.seq (WP.block (WP.sr (RG.ml rfl (RG.p (PV.neg rfl rfl (by omega)) (RG.mr rfl (RG.nil (WP.block ?_))))))))
    refine WP.loop2 [1, 5, 6, 10, 11] (fun (d : Int) (E2 : List Bool) => (-c <= d ∧ d <= c + 1) ∧ Is E2 (N2d W c y x d)) (fun (d : Int) (E2 : List Bool) => [(12, vi d)]) (fun (d : Int) (E2 : List Bool) => osl 4 boolT v15 W :: osl 4 boolT v18 E2 :: L) (fun (d : Int) (E2 : List Bool) => (c + 1 - d).toNat) (-c) E1 ⟨by omega, hE1.congr fun v u _ _ => N2d.start⟩ ⟨rfl, trivial⟩ Cv.p ?_
    rintro d E2 τ2 ⟨hd, hE2⟩
    refine WP.seq (WP.sr (RG.ml rfl (RG.ml rfl (RG.p (PV.leq rfl rfl rfl) (RG.bl rfl ?_)))))
    refine RG.g rfl (fun hp => (PV.move (v := v15) rfl rfl)) ?_
    refine RG.g rfl (fun hp => (PV.mvI (.inl rfl) rfl)) ?_
    refine RG.g rfl (fun hp => (PV.mvI (.inl rfl) rfl)) ?_
    refine RG.gsC rfl rfl rfl rfl En240 (fun hp => ⟨_, (acons (gt' hp) (acons (gt' hp) anil)), l17At_s (by first | omega | (simp at hp; omega)) (by first | omega | (simp at hp; omega)) ⟨rfl, rfl, rfl⟩⟩) ?_
    refine RG.g rfl (fun hp => (PV.idxS (j := ((y + 40) * 80 + x + 40).toNat) (v := v15) rfl Is148 (gt' hp) SlF.o (gt' hp) (by first | omega | (simp at hp; omega)) (by first | omega | (simp at hp; omega)))) ?_
    refine RG.g rfl (fun hp => (PV.loadE1 rfl Sc4 (gt' hp) rfl (El.o (getG (by first | omega | (simp at hp; omega)))) rfl)) ?_
    refine RG.p (PV.pickA rfl rfl (fun hq => gt' (geqT hq)) rfl) (RG.nil ?_)
    have hEl2 := hE2.1
    refine WP.cond rfl (fun h4 => ?_) fun h4 => ?_
    ·have h4' : d <= c ∧ gb W (y + 40).toNat (x + 40).toNat = true := by rw [gb, <- hat]; simpa using h4
     have h4 := h4'.1
     refine WP.skip (WP.seq (WP.block (WP.sr (RG.ml rfl (RG.ml rfl (RG.ml rfl (RG.p (PV.add rfl rfl rfl (by omega)) ?_)))))))
     refine RG.callF (vs := [_, _]) rfl rfl En241 rfl (l17Inside_s ?_)
     refine RG.nil ?_
     refine WP.cond rfl (fun h5 => ?_) fun h5 => ?_
     ·have h5 : (-40 <= x ∧ x < 40) ∧ -40 <= y + d ∧ y + d < 40 := by simpa using h5
      have hat2 := at_eq (x := x) (y := y + d) (by omega) (by omega)
      refine WP.region (RG.p (PV.move (v := v18) rfl rfl) (RG.ml rfl (RG.ml rfl (RG.ml rfl (RG.p (PV.add rfl rfl rfl (by omega)) ?_)))))
      refine RG.callF (vs := [_, _]) rfl rfl En240 rfl (l17At_s (by first | omega | (simp at hp; omega)) (by first | omega | (simp at hp; omega)) ?_)
      refine RG.p (PV.idxS (j := ((y + d + 40) * 80 + x + 40).toNat) (v := v18) rfl Is148 rfl SlF.o rfl (by first | omega | (simp only [List.length_set]; omega)) (by first | omega | (simp only [List.length_set]; omega))) ?_
      refine RG.ot rfl (OT.storeE (F := boolT) rfl Sz4 rfl rfl rfl (Cl.c rfl) (OneC.c rfl) (by first | omega | (simp only [List.length_set]; omega)) ?_)
      refine RG.nil (WP.region (RG.ml rfl (RG.p (PV.add rfl rfl rfl (by omega)) (RG.mr rfl (RG.nil ?_)))))
      exact ⟨rfl, d + 1, (E2.set ((y + d + 40) * 80 + x + 40).toNat true), ⟨by omega, by rw [hat2]; exact (hE2.set (by omega) (by omega)).congr fun v u _ _ => N2d.put (by omega) (by omega) (by omega) h4'.2⟩, ⟨rfl, trivial⟩, ⟨rfl, rfl, rfl, rfl, rfl, trivial⟩, Cv.p, by omega⟩
     ·have h5 : ¬ (-40 <= y + d ∧ y + d < 40) := by
       intro h6
       have h7 : ((-40 <= x ∧ x < 40) ∧ -40 <= y + d ∧ y + d < 40) := ⟨by omega, h6⟩
       simp [h7.1.1, h7.1.2, h7.2.1, h7.2.2] at h5
      refine WP.skip (WP.region (RG.ml rfl (RG.p (PV.add rfl rfl rfl (by omega)) (RG.mr rfl (RG.nil ?_)))))
      exact ⟨rfl, d + 1, E2, ⟨by omega, hE2.congr fun v u hv _ => N2d.out hv h5⟩, ⟨rfl, trivial⟩, ⟨rfl, rfl, rfl, rfl, rfl, trivial⟩, Cv.p, by omega⟩
    ·have h4' : d = c + 1 ∨ gb W (y + 40).toNat (x + 40).toNat = false := by
      by_cases c1 : d <= c
      ·right; rw [gb, <- hat]; simpa [c1] using h4
      ·left; omega
     refine WP.exit (WP.region (RG.ml rfl (RG.p (PV.add rfl rfl rfl (by omega)) (RG.mr rfl (RG.nil ?_)))))
     exact ⟨rfl, x + 1, E2, ⟨by omega, hE2.congr fun v u _ _ => N2d.stop (by omega) (h4'.imp id fun e hv => by rw [show u = (x + 40).toNat by omega]; exact e) (by omega)⟩, ⟨rfl, trivial⟩, ⟨rfl, rfl, rfl, rfl, trivial⟩, Cv.p, by omega⟩
   ·obtain rfl : x = 40 := by have h3 := odf h3; omega
    refine WP.exit (WP.region (RG.ml rfl (RG.p (PV.add rfl rfl rfl (by omega)) (RG.mr rfl (RG.nil ?_)))))
    exact ⟨rfl, y + 1, E1, ⟨by omega, hE1.congr fun v u _ hu => N2.line hu⟩, ⟨rfl, trivial⟩, ⟨rfl, rfl, rfl, trivial⟩, Cv.p, by omega⟩
  ·obtain rfl : y = 40 := by have h2 := odf h2; omega
   have e := near_grow hW hE
   rw [e]
   refine WP.exit (WP.sr (RG.p (PV.move (v := v18) rfl rfl) (RG.p (PV.asg (v := v18) rfl rfl) (RG.nil ?_))))
   exact WP.ret ⟨_, _, rv rfl rfl, Cv.p, k v18⟩
def ZI (f : Bool -> Bool -> Bool) (D O : List Bool) (i : Nat) (E : List Bool) : Prop := E.length = 6400 ∧ (∀ j, j < i -> gd E j = f (gd D j) (gd O j)) ∧ ∀ j, i <= j -> gd E j = gd D j
theorem ZI.start {f : Bool -> Bool -> Bool} {D O : List Bool} (h : D.length = 6400) : ZI f D O 0 D := ⟨h, fun j hj => by omega, fun j _ => rfl⟩
theorem ZI.step {f : Bool -> Bool -> Bool} {D O E : List Bool} {i : Nat} (h : ZI f D O i E) (hi : i < 6400) : ZI f D O (i + 1) (E.set i (f (gd E i) (gd O i))) := ⟨by simpa using h.1, fun j hj => by
 by_cases c : j = i
 ·subst c; rw [gd_setE (by rw [h.1]; exact hi), h.2.2 j (Nat.le_refl _)]
 ·rw [gd_setM (fun e => c e.symm)]; exact h.2.1 j (by omega), fun j hj => by rw [gd_setM (by omega)]; exact h.2.2 j (by omega)⟩
theorem ZI.done {f : Bool -> Bool -> Bool} {D O E : List Bool} (h : ZI f D O 6400 E) (hD : D.length = 6400) (hO : O.length = 6400) : E = zipB f D O := by
 have hz := zipB_len (f := f) hD hO
 apply List.ext_getElem?
 intro j
 by_cases hj : j < 6400
 ·rw [getG (by rw [h.1]; omega), h.2.1 j hj, zipB_get (by omega) (by omega)]
 ·rw [List.getElem?_eq_none (by rw [h.1]; omega), List.getElem?_eq_none (by omega)]
def minB (p q : Bool) : Bool := p && !q
def enclL (xs ys : List Rect) (w : Int) : List Rect := if (isReg xs && isReg ys && within w 0 8) = true then canon (zipB minB (growB (bits xs) w) (bits ys)) else []
theorem markEncl_s {u v : Value} {xs ys : List Rect} {w : Int} (h1 : Rs G L rectT u xs) (h2 : Rs G L rectT v ys) (k : ∀ v', R v' G (osl 101 rectT v' (enclL xs ys w) :: L)) : CallT Tryz.prog 173 #[u, v, vi w] G L R := by
 refine CallT.enter (args := _) Tryz.func173 rfl rfl (by kernel_rfl) rfl ?_
 refine WP.sr (RG.p (PV.asg rfl rfl) (RG.nil (WP.seq (WP.sr (RG.p (PV.move (v := u) rfl rfl) ?_)))))
 refine RG.callF (vs := [u]) rfl rfl En54 rfl (l03Ok_s (Rs.up h1) ?_)
 refine RG.p (PV.not rfl rfl) (RG.bl rfl ?_)
 refine RG.g rfl (fun hp => (PV.move (v := v) rfl rfl)) ?_
 refine RG.gsC rfl rfl rfl rfl En54 (fun hp => ⟨_, (acons (gt' hp) anil), l03Ok_s (Rs.up h2) ⟨rfl, rfl, rfl⟩⟩) ?_
 refine RG.g rfl (fun hp => (PV.not rfl (gt' hp))) ?_
 refine RG.p (PV.pickO rfl rfl rfl (fun hq => gt' (geqF hq))) (RG.bl rfl ?_)
 refine RG.g rfl (fun hp => (PV.mvI (.inl rfl) rfl)) ?_
 refine RG.g rfl (fun hp => (PV.lss rfl (gt' hp) rfl)) ?_
 refine RG.p (PV.pickO rfl rfl rfl (fun hq => gt' (geqF hq))) (RG.bl rfl ?_)
 refine RG.g rfl (fun hp => (PV.mvI (.inl rfl) rfl)) ?_
 refine RG.g rfl (fun hp => (PV.gtr rfl (gt' hp) rfl)) ?_
 refine RG.p (PV.pickO rfl rfl rfl (fun hq => gt' (geqF hq))) (RG.nil ?_)
 refine WP.cond rfl (fun h3 => ?_) fun h3 => ?_
 ·have e : enclL xs ys w = [] := by
   rw [enclL, if_neg]
   intro h4
   simp only [Bool.and_eq_true, within, decide_eq_true_eq] at h4
   simp [h4.1.1, h4.1.2] at h3; omega
  rw [e] at k
  refine WP.sr ?_
  refine RG.ot rfl (OT.bslice (F := rectT) (els := []) rfl El50 rfl (by decide) rfl (by decide) trivial fun v26 => ?_)
  refine RG.p (PV.asg (v := v26) rfl rfl) (RG.nil ?_)
  exact WP.ret ⟨_, _, rv rfl rfl, Cv.p, k v26⟩
 ·have h4 : isReg xs = true ∧ isReg ys = true ∧ 0 <= w ∧ w <= 8 := by
   cases g1 : isReg xs <;> cases g2 : isReg ys <;> simp_all
  have hreg := h4.1
  have hregy := h4.2.1
  have hwb := h4.2.2
  have hgl := growB_len (bits xs) w
  have e : enclL xs ys w = canon (zipB minB (growB (bits xs) w) (bits ys)) := by rw [enclL, if_pos]; simp [hreg, hregy, within, hwb.1, hwb.2]
  rw [e] at k
  refine WP.skip (WP.sr (RG.p (PV.move (v := u) rfl rfl) ?_))
  refine RG.callF (vs := [u]) rfl rfl En104 rfl (l03Bits_s (Rs.up h1) (fun i hi => valid_get (isReg_valid hreg) hi) (fun v28 => ?_))
  refine RG.ml rfl ?_
  refine RG.callF (vs := [v28, _]) rfl rfl En214 rfl (near_s Rs.o (bits_length _) (by omega) (fun v30 => ?_))
  refine RG.p (PV.asg (v := v30) rfl rfl) (RG.nil (WP.sr (RG.p (PV.move (v := v) rfl rfl) ?_)))
  refine RG.callF (vs := [v]) rfl rfl En104 rfl (l03Bits_s (Rs.up h2) (fun i hi => valid_get (isReg_valid hregy) hi) (fun v32 => ?_))
  refine RG.p (PV.asg (v := v32) rfl rfl) (RG.nil (WP.seq (WP.sr (RG.mr rfl (RG.nil (WP.block ?_))))))
  have hby := bits_length ys
  refine WP.loop2 [7, 8] (fun (i : Nat) (E : List Bool) => i <= 6400 ∧ ZI minB (growB (bits xs) w) (bits ys) i E) (fun (i : Nat) (E : List Bool) => [(9, vi i)]) (fun (i : Nat) (E : List Bool) => osl 4 boolT v30 E :: osl 4 boolT v32 (bits ys) :: L) (fun (i : Nat) (E : List Bool) => 6400 - i) 0 (growB (bits xs) w) ⟨by omega, ZI.start hgl⟩ ⟨rfl, trivial⟩ Cv.p ?_
  rintro i E τ ⟨hi, hE⟩
  refine WP.seq (WP.sr (RG.ml rfl (RG.p (PV.move (v := v30) rfl rfl) (RG.p (PV.len (v := v30) rfl Tryz.underlying148 rfl SlF.o) (RG.p (PV.lss rfl rfl rfl) (RG.nil ?_))))))
  have hEl := hE.1
  refine WP.cond rfl (fun h5 => ?_) fun h5 => ?_
  ·have h5 := odt h5
   refine WP.skip (WP.seq (WP.block (WP.region (RG.p (PV.move (v := v30) rfl rfl) (RG.ml rfl (RG.p (PV.move (v := v30) rfl rfl) (RG.ml rfl (RG.p (PV.idxS (v := v30) rfl Is148 rfl SlF.o rfl rfl (by omega)) (RG.p (PV.loadE1 rfl Sc4 rfl rfl (El.o (getG (by omega))) rfl) (RG.bl rfl ?_))))))))))
   refine RG.g rfl (fun hp => (PV.move (v := v32) rfl rfl)) ?_
   refine RG.g rfl (fun hp => (PV.mvI (.inl rfl) rfl)) ?_
   refine RG.g rfl (fun hp => (PV.idxS (v := v32) rfl Is148 (gt' hp) SlF.o (gt' hp) rfl (by first | omega | (simp at hp; omega)))) ?_
   refine RG.g rfl (fun hp => (PV.loadE1 rfl Sc4 (gt' hp) rfl (El.o (getG (by first | omega | (simp at hp; omega)))) rfl)) ?_
   refine RG.g rfl (fun hp => (PV.not rfl (gt' hp))) ?_
   refine RG.p (PV.pickA rfl rfl (fun hq => gt' (geqT hq)) rfl) (RG.p (PV.idxS (v := v30) rfl Is148 rfl SlF.o rfl rfl (by omega)) ?_)
   refine RG.ot rfl (OT.storeE (F := boolT) rfl Sz4 rfl rfl rfl (Cl.c rfl) (OneC.c rfl) (by omega) ?_)
   refine RG.nil (WP.region (RG.ml rfl (RG.p (PV.add rfl rfl rfl (by omega)) (RG.mr rfl (RG.nil ?_)))))
   exact ⟨rfl, i + 1, (E.set i (gd E i && !gd (bits ys) i)), ⟨by omega, hE.step (by omega)⟩, ⟨rfl, trivial⟩, ⟨rfl, rfl, trivial⟩, Cv.p, by omega⟩
  ·have h5 := odf h5
   obtain rfl : i = 6400 := by omega
   obtain rfl := hE.done hgl hby
   refine WP.exit (WP.sr (RG.p (PV.move (v := v30) rfl rfl) ?_))
   refine RG.callF (vs := [v30]) rfl rfl En103 rfl (l03Canon_s Rs.o hEl (fun v54 => ?_))
   refine RG.p (PV.asg (v := v54) rfl rfl) (RG.nil ?_)
   exact WP.ret ⟨_, _, rv rfl rfl, Cv.p, k v54⟩
theorem or_s {u v : Value} {A B : List Bool} (h1 : Rs G L boolT u A) (h2 : Rs G L boolT v B) (hA : A.length = 6400) (hB : B.length = 6400) (k : ∀ v', R v' G (osl 4 boolT v' (orZ A B) :: L)) : CallT Tryz.prog 217 #[u, v] G L R := by
 refine CallT.enter (args := _) Tryz.func217 rfl rfl (by kernel_rfl) rfl ?_
 refine WP.sr (RG.p (PV.asg rfl rfl) (RG.nil (WP.sr (RG.p (PV.move (v := u) rfl rfl) (RG.p (PV.len (v := u) rfl Tryz.underlying148 rfl (SlF.r h1)) ?_)))))
 refine RG.ot rfl (OT.make (F := boolT) (a0 := false) rfl El148 rfl (by decide) rfl rfl (by omega) (by omega) fun v9 => ?_)
 refine RG.p (PV.asg (v := v9) rfl rfl) (RG.nil (WP.seq (WP.sr (RG.mr rfl (RG.nil (WP.block ?_))))))
 refine WP.loop2 [0, 1, 5] (fun (i : Nat) (E : List Bool) => i <= A.length ∧ E = (List.range i).map (fun j => gd A j || gd B j) ++ List.replicate (A.length - i) false) (fun (i : Nat) (E : List Bool) => [(6, vi i)]) (fun (i : Nat) (E : List Bool) => osl 4 boolT v9 E :: L) (fun (i : Nat) (E : List Bool) => A.length - i) 0 (List.replicate A.length false) ⟨by omega, by simp⟩ ⟨rfl, trivial⟩ Cv.p ?_
 rintro i E τ ⟨hi, hE⟩
 refine WP.seq (WP.sr (RG.ml rfl (RG.p (PV.move (v := u) rfl rfl) (RG.p (PV.len (v := u) rfl Tryz.underlying148 rfl (SlF.r h1)) (RG.p (PV.lss rfl rfl rfl) (RG.nil ?_))))))
 have hEl : E.length = A.length := by rw [hE]; simp; omega
 refine WP.cond rfl (fun h5 => ?_) fun h5 => ?_
 ·have h5 := odt h5
  have hn := mapB_set (f := fun j => gd A j || gd B j) (n := A.length) (i := i) (by omega) hE
  refine WP.skip (WP.seq (WP.block (WP.region (RG.p (PV.move (v := v9) rfl rfl) (RG.ml rfl (RG.p (PV.move (v := u) rfl rfl) (RG.ml rfl (RG.p (PV.idxS (v := u) rfl Is148 rfl (SlF.r h1) rfl rfl (by omega)) (RG.p (PV.loadE1 rfl Sc4 rfl rfl (El.r h1 (getG (by omega))) rfl) (RG.bl rfl ?_))))))))))
  refine RG.g rfl (fun hp => (PV.move (v := v) rfl rfl)) ?_
  refine RG.g rfl (fun hp => (PV.mvI (.inl rfl) rfl)) ?_
  refine RG.g rfl (fun hp => (PV.idxS (v := v) rfl Is148 (gt' hp) (SlF.r h2) (gt' hp) rfl (by first | omega | (simp at hp; omega)))) ?_
  refine RG.g rfl (fun hp => (PV.loadE1 rfl Sc4 (gt' hp) rfl (El.r h2 (getG (by first | omega | (simp at hp; omega)))) rfl)) ?_
  refine RG.p (PV.pickO rfl rfl rfl (fun hq => gt' (geqF hq))) (RG.p (PV.idxS (v := v9) rfl Is148 rfl SlF.o rfl rfl (by omega)) ?_)
  refine RG.ot rfl (OT.storeE (F := boolT) rfl Sz4 rfl rfl rfl (Cl.c rfl) (OneC.c rfl) (by omega) ?_)
  refine RG.nil (WP.region (RG.ml rfl (RG.p (PV.add rfl rfl rfl (by omega)) (RG.mr rfl (RG.nil ?_)))))
  exact ⟨rfl, i + 1, (E.set i (gd A i || gd B i)), ⟨by omega, hn⟩, ⟨rfl, trivial⟩, ⟨rfl, rfl, rfl, trivial⟩, Cv.p, by omega⟩
 ·have h5 := odf h5
  obtain rfl : i = A.length := by omega
  have hE' : E = orZ A B := by rw [hE, Nat.sub_self, List.replicate_zero, List.append_nil]; rfl
  rw [hE']
  refine WP.exit (WP.sr (RG.p (PV.move (v := v9) rfl rfl) (RG.p (PV.asg (v := v9) rfl rfl) (RG.nil ?_))))
  exact WP.ret ⟨_, _, rv rfl rfl, Cv.p, k v9⟩
theorem orZ_gb {A B : List Bool} (hA : A.length = 6400) {y x : Nat} (hy : y < 80) (hx : x < 80) : gb (orZ A B) y x = (gb A y x || gb B y x) := by
 have h : y * 80 + x < (orZ A B).length := by rw [orZ_len]; omega
 rw [gb, gd_eq h]; simp [orZ, gb]
def Small (S : List Bool) (w : Int) (y x : Nat) : Prop := ∃ c ∈ comps S, cnt c < w ∧ gb c y x = true
noncomputable def areaL (xs : List Rect) (w : Int) : List Rect := if (isReg xs && within w 1 6400) = true then canon (celL (Small (bits xs) w)) else []
def SmallN (cs : List (List Bool)) (w : Int) (y x : Nat) : Prop := ∃ c ∈ cs, cnt c < w ∧ gb c y x = true
theorem SmallN.next {cs : List (List Bool)} {w : Int} {y x i : Nat} (h : i < cs.length) : SmallN (cs.take (i + 1)) w y x ↔ SmallN (cs.take i) w y x ∨ (cnt (gd cs i) < w ∧ gb (gd cs i) y x = true) := by
 unfold SmallN
 rw [List.take_add_one, getG h]
 constructor
 ·rintro ⟨c, hc, h1⟩
  rcases List.mem_append.1 hc with h2 | h2
  ·exact .inl ⟨c, h2, h1⟩
  ·simp only [Option.toList, List.mem_singleton] at h2; subst h2; exact .inr h1
 ·rintro (⟨c, hc, h1⟩ | h1)
  ·exact ⟨c, List.mem_append_left _ hc, h1⟩
  ·exact ⟨_, List.mem_append_right _ (by simp), h1⟩
theorem markArea_s {v : Value} {xs : List Rect} {w : Int} (h1 : Rs G L rectT v xs) (k : ∀ v', R v' G (osl 101 rectT v' (areaL xs w) :: L)) : CallT Tryz.prog 174 #[v, vi w] G L R := by
 refine CallT.enter (args := _) Tryz.func174 rfl rfl (by kernel_rfl) rfl ?_
 refine WP.sr (RG.p (PV.asg rfl rfl) (RG.nil (WP.seq (WP.sr (RG.p (PV.move (v := v) rfl rfl) ?_)))))
 refine RG.callF (vs := [v]) rfl rfl En54 rfl (l03Ok_s (Rs.up h1) ?_)
 refine RG.p (PV.not rfl rfl) (RG.bl rfl ?_)
 refine RG.g rfl (fun hp => (PV.mvI (.inl rfl) rfl)) ?_
 refine RG.g rfl (fun hp => (PV.lss rfl (gt' hp) rfl)) ?_
 refine RG.p (PV.pickO rfl rfl rfl (fun hq => gt' (geqF hq))) (RG.bl rfl ?_)
 refine RG.g rfl (fun hp => (PV.mvI (.inl rfl) rfl)) ?_
 refine RG.g rfl (fun hp => (PV.gtr rfl (gt' hp) rfl)) ?_
 refine RG.p (PV.pickO rfl rfl rfl (fun hq => gt' (geqF hq))) (RG.nil ?_)
 refine WP.cond rfl (fun h3 => ?_) fun h3 => ?_
 ·have e : areaL xs w = [] := by
   rw [areaL, if_neg]
   intro h4
   simp only [Bool.and_eq_true, within, decide_eq_true_eq] at h4
   simp [h4.1] at h3; omega
  rw [e] at k
  refine WP.sr ?_
  refine RG.ot rfl (OT.bslice (F := rectT) (els := []) rfl El50 rfl (by decide) rfl (by decide) trivial fun v19 => ?_)
  refine RG.p (PV.asg (v := v19) rfl rfl) (RG.nil ?_)
  exact WP.ret ⟨_, _, rv rfl rfl, Cv.p, k v19⟩
 ·have h4 : isReg xs = true ∧ 1 <= w ∧ w <= 6400 := by cases g1 : isReg xs <;> simp_all
  have hreg : isReg xs = true := h4.1
  refine WP.skip (WP.sr ?_)
  refine RG.ot rfl (OT.make (m := 6400) (F := boolT) (a0 := false) rfl El148 rfl (by decide) rfl rfl (by omega) (by omega) fun v20 => ?_)
  refine RG.p (PV.asg (v := v20) rfl rfl) (RG.nil (WP.sr (RG.p (PV.move (v := v) rfl rfl) ?_)))
  refine RG.callF (vs := [v]) rfl rfl En104 rfl (l03Bits_s (Rs.up h1) (fun i hi => valid_get (isReg_valid hreg) hi) (fun v22 => ?_))
  refine RG.callF (vs := [v22]) rfl rfl En215 rfl (comps_s Rs.o (bits_length _) (fun v23 zsv23 hev23 => ?_))
  refine RG.p (PV.asg (v := v23) rfl rfl) (RG.nil (WP.seq (WP.sr (RG.mr rfl (RG.nil (WP.block ?_))))))
  have hcl : zsv23.length = (comps (bits xs)).length := by have := congrArg List.length hev23; rwa [er_len] at this
  have hzl : zsv23.length <= 6400 := by rw [hcl]; exact comps_len _
  have hl6 : ∀ i, i < zsv23.length -> (gd zsv23 i).xs.length = 6400 := fun i hi => by
   rw [<- er_gd, hev23]
   exact comps_mem (gd_mem (by omega))
  refine WP.loop3 [1, 6] (fun (i : Nat) (E : List Bool) (q : Value) => i <= zsv23.length ∧ Is E (SmallN ((comps (bits xs)).take i) w)) (fun (i : Nat) (E : List Bool) (q : Value) => [(7, vi i), (5, q)]) (fun (i : Nat) (E : List Bool) (q : Value) => osl 4 boolT q E :: osl 148 slT v23 zsv23 :: bagS 4 boolT zsv23 :: L) (fun (i : Nat) (E : List Bool) (q : Value) => zsv23.length - i) 0 (List.replicate 6400 false) v20 ⟨by omega, Is.none _ rfl fun v u _ _ => by rintro ⟨c, hc, _⟩; simp at hc⟩ ⟨rfl, rfl, trivial⟩ Cv.p ?_
  rintro i E q τ ⟨hi, hE⟩
  refine WP.seq (WP.sr (RG.ml rfl (RG.p (PV.move (v := v23) rfl rfl) (RG.p (PV.len (v := v23) rfl Tryz.underlying194 rfl SlF.o) (RG.p (PV.lss rfl rfl rfl) (RG.nil ?_))))))
  have hEl := hE.1
  refine WP.cond rfl (fun h5 => ?_) fun h5 => ?_
  ·have h5 := odt h5
   have hgi : gd (comps (bits xs)) i = (gd zsv23 i).xs := by rw [<- hev23, er_gd]
   have hnx := fun y x => SmallN.next (cs := comps (bits xs)) (w := w) (y := y) (x := x) (i := i) (by omega)
   rw [hgi] at hnx
   refine WP.skip (WP.seq (WP.block (WP.sr (RG.p (PV.move (v := v23) rfl rfl) (RG.ml rfl (RG.p (PV.idxS (v := v23) rfl Is194 rfl SlF.o rfl rfl (by omega)) (RG.p (PV.loadE1 rfl Sc148 rfl rfl (El.o (getG (by omega))) rfl) ?_)))))))
   refine RG.callF (vs := [_]) rfl rfl En216 rfl (l19Count_s (Rs.inBag (xs := zsv23) i (by omega)) (hl6 i (by omega)) ?_)
   refine RG.ml rfl (RG.p (PV.lss rfl rfl rfl) (RG.nil ?_))
   refine WP.cond rfl (fun h6 => ?_) fun h6 => ?_
   ·have h6 : cnt (gd zsv23 i).xs < w := by simpa using h6
    have hnE : Is (orZ E (gd zsv23 i).xs) (SmallN ((comps (bits xs)).take (i + 1)) w) := ⟨by rw [orZ_len]; exact hEl, fun y x hy hx => by rw [orZ_gb hEl hy hx, Bool.or_eq_true, hE.2 y x hy hx, hnx]; simp [h6]⟩
    refine WP.region (RG.p (PV.move (v := q) rfl rfl) (RG.p (PV.move (v := v23) rfl rfl) (RG.ml rfl (RG.p (PV.idxS (v := v23) rfl Is194 rfl SlF.o rfl rfl (by omega)) (RG.p (PV.loadE1 rfl Sc148 rfl rfl (El.o (getG (by omega))) rfl) ?_)))))
    refine RG.callF (vs := [q, _]) rfl rfl En217 rfl (or_s Rs.o (Rs.inBag (xs := zsv23) i (by omega)) hEl (hl6 i (by omega)) (fun v42 => ?_))
    refine RG.p (PV.asg (v := v42) rfl rfl) (RG.nil (WP.region (RG.ml rfl (RG.p (PV.add rfl rfl rfl (by omega)) (RG.mr rfl (RG.nil ?_))))))
    exact ⟨rfl, i + 1, (orZ E (gd zsv23 i).xs), v42, ⟨by omega, hnE⟩, ⟨rfl, rfl, trivial⟩, ⟨rfl, rfl, trivial⟩, Cv.p, by omega⟩
   ·have h6 : ¬ cnt (gd zsv23 i).xs < w := by simpa using h6
    have hnE : Is E (SmallN ((comps (bits xs)).take (i + 1)) w) := hE.congr fun y x _ _ => by rw [hnx]; simp [h6]
    refine WP.skip (WP.region (RG.ml rfl (RG.p (PV.add rfl rfl rfl (by omega)) (RG.mr rfl (RG.nil ?_)))))
    exact ⟨rfl, i + 1, E, q, ⟨by omega, hnE⟩, ⟨rfl, rfl, trivial⟩, ⟨rfl, rfl, trivial⟩, Cv.p, by omega⟩
  ·have h5 := odf h5
   have e : areaL xs w = canon E := by
    rw [List.take_of_length_le (by omega)] at hE
    rw [areaL, if_pos (by simp [hreg, within, h4.2.1, h4.2.2])]
    exact congrArg canon (celL_eq (P := Small (bits xs) w) hE.1 hE.2).symm
   rw [e] at k
   refine WP.exit (WP.sr (RG.p (PV.move (v := q) rfl rfl) ?_))
   refine RG.callF (vs := [q]) rfl rfl En103 rfl (l03Canon_s Rs.o hEl (fun v44 => ?_))
   refine RG.p (PV.asg (v := v44) rfl rfl) (RG.nil ?_)
   exact WP.ret ⟨_, _, rv rfl rfl, Cv.p, k v44⟩
def winR (w y x : Int) : Rect := ⟨x, y, min (x + w) 40, min (y + w) 40⟩
def winX (w y x : Int) : List Rect := if x < 40 ∧ 0 < w then winR w y x :: winX w y (x + w) else []
termination_by (40 - x).toNat
decreasing_by omega
def winY (w y : Int) : List Rect := if y < 40 ∧ 0 < w then winX w y (-40) ++ winY w (y + w) else []
termination_by (40 - y).toNat
decreasing_by omega
def windL (w : Int) : List Rect := if within w 4 40 = true then winY w (-40) else []
theorem winX_on {w y x : Int} (hw : 0 < w) (hx : x < 40) : winX w y x = winR w y x :: winX w y (x + w) := by rw [winX, if_pos ⟨hx, hw⟩]
theorem winX_off {w y x : Int} (hx : ¬ x < 40) : winX w y x = [] := by rw [winX, if_neg (fun h => hx h.1)]
theorem winY_on {w y : Int} (hw : 0 < w) (hx : y < 40) : winY w y = winX w y (-40) ++ winY w (y + w) := by rw [winY, if_pos ⟨hx, hw⟩]
theorem winY_off {w y : Int} (hx : ¬ y < 40) : winY w y = [] := by rw [winY, if_neg (fun h => hx h.1)]
theorem winX_facts {w y : Int} (hw : 0 < w) (hy : -40 <= y ∧ y < 40) (x : Int) (hx : -40 <= x) : (winX w y x).length <= (40 - x).toNat ∧ ∀ r ∈ winX w y x, validRect r = true := by
 by_cases c : x < 40
 ·rw [winX_on hw c]
  have ih := winX_facts hw hy (x + w) (by omega)
  refine ⟨by simp only [List.length_cons]; omega, fun r hr => ?_⟩
  rcases List.mem_cons.1 hr with rfl | hr
  ·rw [validR_iff]; simp only [winR]; omega
  ·exact ih.2 r hr
 ·rw [winX_off c]; exact ⟨Nat.zero_le _, fun r hr => by cases hr⟩
termination_by (40 - x).toNat
decreasing_by omega
theorem winY_facts {w : Int} (hw : 0 < w) (y : Int) (hy : -40 <= y) : (winY w y).length <= 80 * (40 - y).toNat ∧ ∀ r ∈ winY w y, validRect r = true := by
 by_cases c : y < 40
 ·rw [winY_on hw c]
  have ih := winY_facts hw (y + w) (by omega)
  have hx := winX_facts hw ⟨hy, c⟩ (-40) (by omega)
  refine ⟨by rw [List.length_append]; omega, fun r hr => ?_⟩
  rcases List.mem_append.1 hr with hr | hr
  ·exact hx.2 r hr
  ·exact ih.2 r hr
 ·rw [winY_off c]; exact ⟨Nat.zero_le _, fun r hr => by cases hr⟩
termination_by (40 - y).toNat
decreasing_by omega
theorem windL_facts (w : Int) : (windL w).length <= 6400 ∧ ∀ r ∈ windL w, validRect r = true := by
 unfold windL; split
 ·rename_i h; simp [within] at h; exact ⟨by have := (winY_facts (w := w) (by omega) (-40) (by omega)).1; omega, (winY_facts (by omega) (-40) (by omega)).2⟩
 ·exact ⟨Nat.zero_le _, fun r hr => by cases hr⟩
theorem windows_s {w : Int} (k : ∀ v', R v' G (osl 101 rectT v' (windL w) :: L)) : CallT Tryz.prog 218 #[vi w] G L R := by
 refine CallT.enter (args := _) Tryz.func218 rfl rfl (by kernel_rfl) rfl ?_
 refine WP.sr (RG.p (PV.asg rfl rfl) (RG.nil (WP.sr ?_)))
 refine RG.ot rfl (OT.bslice (F := rectT) (els := []) rfl El50 rfl (by decide) rfl (by decide) trivial fun v6 => ?_)
 refine RG.p (PV.asg (v := v6) rfl rfl) (RG.nil (WP.seq (WP.sr (RG.ml rfl (RG.p (PV.lss rfl rfl rfl) (RG.bl rfl ?_))))))
 refine RG.g rfl (fun hp => (PV.mvI (.inl rfl) rfl)) ?_
 refine RG.g rfl (fun hp => (PV.gtr rfl (gt' hp) rfl)) ?_
 refine RG.p (PV.pickO rfl rfl rfl (fun hq => gt' (geqF hq))) (RG.nil ?_)
 refine WP.cond rfl (fun h2 => ?_) fun h2 => ?_
 ·have e : windL w = [] := by rw [windL, if_neg]; simp only [within, Bool.and_eq_true, decide_eq_true_eq]; simp at h2; omega
  rw [e] at k
  refine WP.sr (RG.p (PV.move (v := v6) rfl rfl) (RG.p (PV.asg (v := v6) rfl rfl) (RG.nil ?_)))
  exact WP.ret ⟨_, _, rv rfl rfl, Cv.p, k v6⟩
 ·have h3 : 4 <= w ∧ w <= 40 := by simp at h2; omega
  have hwl := (winY_facts (w := w) (by omega) (-40) (by omega)).1
  have e : windL w = winY w (-40) := by rw [windL, if_pos]; simp [within, h3.1, h3.2]
  rw [e] at k
  refine WP.skip (WP.seq (WP.sr (RG.mr rfl (RG.nil (WP.block ?_)))))
  refine WP.loop3 [0] (fun (y : Int) (zs : List Rect) (q : Value) => (-40 <= y ∧ y <= 80) ∧ zs ++ winY w y = winY w (-40)) (fun (y : Int) (zs : List Rect) (q : Value) => [(4, vi y), (3, q)]) (fun (y : Int) (zs : List Rect) (q : Value) => osl 101 rectT q zs :: L) (fun (y : Int) (zs : List Rect) (q : Value) => (80 - y).toNat) (-40) [] v6 ⟨by omega, rfl⟩ ⟨rfl, rfl, trivial⟩ Cv.p ?_
  rintro y zs q τ ⟨hy, hz⟩
  refine WP.seq (WP.sr (RG.ml rfl (RG.p (PV.lss rfl rfl rfl) (RG.nil ?_))))
  refine WP.cond rfl (fun h4 => ?_) fun h4 => ?_
  ·have h4 := odt h4
   rw [winY_on (by omega) h4] at hz
   refine WP.skip (WP.seq (WP.block (WP.sr (RG.mr rfl (RG.nil (WP.block ?_))))))
   refine WP.loop3 [0, 4] (fun (x : Int) (zs2 : List Rect) (q2 : Value) => (-40 <= x ∧ x <= 80) ∧ zs2 ++ (winX w y x ++ winY w (y + w)) = winY w (-40)) (fun (x : Int) (zs2 : List Rect) (q2 : Value) => [(5, vi x), (3, q2)]) (fun (x : Int) (zs2 : List Rect) (q2 : Value) => osl 101 rectT q2 zs2 :: L) (fun (x : Int) (zs2 : List Rect) (q2 : Value) => (80 - x).toNat) (-40) zs q ⟨by omega, hz⟩ ⟨rfl, rfl, trivial⟩ Cv.p ?_
   rintro x zs2 q2 τ1 ⟨hx, hz2⟩
   refine WP.seq (WP.sr (RG.ml rfl (RG.p (PV.lss rfl rfl rfl) (RG.nil ?_))))
   have hz2l := congrArg List.length hz2
   rw [List.length_append] at hz2l
   refine WP.cond rfl (fun h5 => ?_) fun h5 => ?_
   ·have h5 := odt h5
    rw [winX_on (by omega) h5] at hz2
    refine WP.skip (WP.seq (WP.block (WP.region (RG.p (PV.move (v := q2) rfl rfl) (RG.ml rfl (RG.ml rfl (RG.ml rfl (RG.ml rfl (RG.p (PV.add rfl rfl rfl (by omega)) (RG.p (PV.min2 rfl rfl rfl) (RG.ml rfl (RG.ml rfl (RG.p (PV.add rfl rfl rfl (by omega)) ?_)))))))))))))
    refine RG.p (PV.min2 rfl rfl rfl) (RG.p (PV.build (vs := [(0, [vi _]), (1, [vi _]), (2, [vi _]), (3, [vi _])]) (out := [_, _, _, _]) rfl Zr101 Pl101 ⟨rfl, (Cl.c rfl), ⟨rfl, (Cl.c rfl), ⟨rfl, (Cl.c rfl), ⟨rfl, (Cl.c rfl), trivial⟩⟩⟩⟩ rfl) ?_)
    refine RG.ot rfl (OT.bslice (F := rectT) (els := [⟨_, _, _, _⟩]) rfl El50 rfl (by decide) rfl (by decide) ⟨rfl, (Cl.c rfl), trivial⟩ fun v36 => ?_)
    refine RG.ot rfl (OT.append (v := q2) (u := v36) (F := rectT) rfl El50 rfl (by decide) rfl rfl Rs.o (OneL.c (fun _ => rfl)) rfl (by first | omega | (simp <;> omega)) fun v37 => ?_)
    refine RG.p (PV.asg (v := v37) rfl rfl) (RG.nil (WP.region (RG.ml rfl (RG.ml rfl (RG.p (PV.add rfl rfl rfl (by omega)) (RG.mr rfl (RG.nil ?_)))))))
    exact ⟨rfl, x + w, (zs2 ++ [⟨x, y, min (x + w) 40, min (y + w) 40⟩]), v37, ⟨by omega, by rw [<- hz2]; simp [winR]⟩, ⟨rfl, rfl, trivial⟩, ⟨rfl, rfl, trivial⟩, Cv.p, by omega⟩
   ·have h5 := odf h5
    rw [winX_off h5, List.nil_append] at hz2
    refine WP.exit (WP.region (RG.ml rfl (RG.ml rfl (RG.p (PV.add rfl rfl rfl (by omega)) (RG.mr rfl (RG.nil ?_))))))
    exact ⟨rfl, y + w, zs2, q2, ⟨by omega, hz2⟩, ⟨rfl, rfl, trivial⟩, ⟨rfl, trivial⟩, Cv.p, by omega⟩
  ·have h4 := odf h4
   rw [winY_off h4, List.append_nil] at hz
   rw [hz]
   refine WP.exit (WP.sr (RG.p (PV.move (v := q) rfl rfl) (RG.p (PV.asg (v := q) rfl rfl) (RG.nil ?_))))
   exact WP.ret ⟨_, _, rv rfl rfl, Cv.p, k q⟩
theorem cov_row {S : List Bool} {y x0 : Int} {n : Nat} : 0 <= tH S y x0 n ∧ tH S y x0 n <= n := cntF_bd _ _
theorem cov_col {S : List Bool} {r : Rect} (hv : (wR r : Int) <= 80) (j : Nat) : 0 <= sumF (fun j => tH S (r.y0 + j) r.x0 (wR r)) j ∧ sumF (fun j => tH S (r.y0 + j) r.x0 (wR r)) j <= j * 80 :=
 sumF_bd (fun i => ⟨cov_row.1, Int.le_trans cov_row.2 hv⟩) j
theorem covB_bd {S : List Bool} {r : Rect} (hr : validRect r = true) : 0 <= covB S r ∧ covB S r <= 6400 := by
 have hv := validR_iff.1 hr
 have h1 : (wR r : Int) = r.x1 - r.x0 := by simp only [wR]; omega
 have h2 : (hR r : Int) = r.y1 - r.y0 := by simp only [hR]; omega
 have := cov_col (S := S) (r := r) (by omega) (hR r)
 unfold covB; omega
theorem covd_s {v : Value} {S : List Bool} {r : Rect} (h1 : Rs G L boolT v S) (hS : S.length = 6400) (hr : validRect r = true) (k : R (vi (covB S r)) G L) : CallT Tryz.prog 219 #[v, vrect r] G L R := by
 have hv := validR_iff.1 hr
 have e1 : (wR r : Int) = r.x1 - r.x0 := by simp only [wR]; omega
 have e2 : (hR r : Int) = r.y1 - r.y0 := by simp only [hR]; omega
 refine CallT.enter (args := _) Tryz.func219 rfl rfl (by kernel_rfl) rfl ?_
 refine WP.sr ?_
 refine RG.ot rfl (OT.box (cs := rectT.enc r) rfl rfl rfl fun b3 => ?_)
 refine RG.mr rfl (RG.nil (WP.sr (RG.mr rfl (RG.nil (WP.seq (WP.sr (RG.p (PV.field rfl Fo101_1 rfl) (RG.p (PV.load1 rfl Sc2 rfl (Rd.blk rfl)) (RG.mr rfl (RG.nil (WP.block ?_)))))))))))
 refine WP.loop3 [0, 3] (fun (j : Nat) (y n : Int) => j <= hR r ∧ y = r.y0 + j ∧ n = sumF (fun j => tH S (r.y0 + j) r.x0 (wR r)) j) (fun (j : Nat) (y n : Int) => [(6, vi y), (5, vi n)]) (fun (j : Nat) (y n : Int) => blk b3 101 (rectT.enc r) :: L) (fun (j : Nat) (y n : Int) => hR r - j) 0 r.y0 0 ⟨by omega, by omega, rfl⟩ ⟨rfl, rfl, trivial⟩ Cv.p ?_
 rintro j y n τ ⟨hj, hy, hn⟩
 refine WP.seq (WP.sr (RG.ml rfl (RG.p (PV.field rfl Fo101_3 rfl) (RG.p (PV.load1 rfl Sc2 rfl (Rd.blk rfl)) (RG.p (PV.lss rfl rfl rfl) (RG.nil ?_))))))
 have hnb := cov_col (S := S) (r := r) (by omega) j
 rw [<- hn] at hnb
 refine WP.cond rfl (fun h2 => ?_) fun h2 => ?_
 ·have h2 := odt h2
  refine WP.skip (WP.seq (WP.block (WP.sr (RG.p (PV.field rfl Fo101_0 rfl) (RG.p (PV.load1 rfl Sc2 rfl (Rd.blk rfl)) (RG.mr rfl (RG.nil (WP.block ?_))))))))
  refine WP.loop3 [0, 3, 6] (fun (i : Nat) (x m : Int) => i <= wR r ∧ x = r.x0 + i ∧ m = n + tH S (r.y0 + j) r.x0 i) (fun (i : Nat) (x m : Int) => [(7, vi x), (5, vi m)]) (fun (i : Nat) (x m : Int) => blk b3 101 (rectT.enc r) :: L) (fun (i : Nat) (x m : Int) => wR r - i) 0 r.x0 n ⟨by omega, by omega, by simp [tH, cntF, sumF]⟩ ⟨rfl, rfl, trivial⟩ Cv.p ?_
  rintro i x m τ1 ⟨hi, hx, hm⟩
  refine WP.seq (WP.sr (RG.ml rfl (RG.p (PV.field rfl Fo101_2 rfl) (RG.p (PV.load1 rfl Sc2 rfl (Rd.blk rfl)) (RG.p (PV.lss rfl rfl rfl) (RG.nil ?_))))))
  have hmb := cov_row (S := S) (y := r.y0 + j) (x0 := r.x0) (n := i)
  refine WP.cond rfl (fun h3 => ?_) fun h3 => ?_
  ·have h3 := odt h3
   have hat := at_eq (x := x) (y := y) (by omega) (by omega)
   have hcl : tH S (r.y0 + j) r.x0 (i + 1) = tH S (r.y0 + j) r.x0 i + one (gd S ((y + 40) * 80 + x + 40).toNat) := by
    rw [tH, cntF_succ, <- hx, <- hy, cellB_in (by omega), gb, <- hat]; rfl
   refine WP.skip (WP.seq (WP.block (WP.sr (RG.p (PV.move (v := v) rfl rfl) (RG.ml rfl (RG.ml rfl ?_))))))
   refine RG.callF (vs := [_, _]) rfl rfl En240 rfl (l17At_s (by omega) (by omega) ?_)
   refine RG.p (PV.idxS (j := ((y + 40) * 80 + x + 40).toNat) (v := v) rfl Is148 rfl (SlF.r h1) rfl (by first | omega | (simp only [List.length_set]; omega)) (by first | omega | (simp only [List.length_set]; omega))) (RG.p (PV.loadE1 rfl Sc4 rfl rfl (El.r h1 (getG (by omega))) rfl) (RG.nil ?_))
   refine WP.cond rfl (fun h4 => ?_) fun h4 => ?_
   ·rw [h4] at hcl
    refine WP.region (RG.ml rfl (RG.p (PV.add rfl rfl rfl (by omega)) (RG.mr rfl (RG.nil (WP.region (RG.ml rfl (RG.p (PV.add rfl rfl rfl (by omega)) (RG.mr rfl (RG.nil ?_)))))))))
    exact ⟨rfl, i + 1, x + 1, m + 1, ⟨by omega, by omega, by rw [hcl, hm]; simp only [one, cond_true]; omega⟩, ⟨rfl, rfl, trivial⟩, ⟨rfl, rfl, rfl, trivial⟩, Cv.p, by omega⟩
   ·rw [h4] at hcl
    refine WP.skip (WP.region (RG.ml rfl (RG.p (PV.add rfl rfl rfl (by omega)) (RG.mr rfl (RG.nil ?_)))))
    exact ⟨rfl, i + 1, x + 1, m, ⟨by omega, by omega, by rw [hcl, hm]; simp only [one, cond_false]; omega⟩, ⟨rfl, rfl, trivial⟩, ⟨rfl, rfl, rfl, trivial⟩, Cv.p, by omega⟩
  ·have h3 := odf h3
   obtain rfl : i = wR r := by omega
   refine WP.exit (WP.region (RG.ml rfl (RG.p (PV.add rfl rfl rfl (by omega)) (RG.mr rfl (RG.nil ?_)))))
   exact ⟨rfl, j + 1, y + 1, m, ⟨by omega, by omega, by rw [hm, hn]; rfl⟩, ⟨rfl, rfl, trivial⟩, ⟨rfl, rfl, trivial⟩, Cv.p, by omega⟩
 ·have h2 := odf h2
  obtain rfl : j = hR r := by omega
  have e : covB S r = n := by rw [hn]; rfl
  rw [e] at k
  refine WP.exit (WP.sr (RG.ml rfl (RG.mr rfl (RG.nil ?_))))
  exact WP.ret ⟨_, _, rv rfl rfl, Cv.p, k⟩
def Bare (S : List Bool) (ws : List Rect) (p : Int) (y x : Nat) : Prop := ∃ r ∈ ws, 100 * covB S r < p * areaR r ∧ inR r y x = true
theorem Bare.next {S : List Bool} {ws : List Rect} {p : Int} {y x i : Nat} (h : i < ws.length) : Bare S (ws.take (i + 1)) p y x ↔ Bare S (ws.take i) p y x ∨ (100 * covB S (gd ws i) < p * areaR (gd ws i) ∧ inR (gd ws i) y x = true) := by
 unfold Bare
 rw [List.take_add_one, getG h]
 constructor
 ·rintro ⟨c, hc, h1⟩
  rcases List.mem_append.1 hc with h2 | h2
  ·exact .inl ⟨c, h2, h1⟩
  ·simp only [Option.toList, List.mem_singleton] at h2; subst h2; exact .inr h1
 ·rintro (⟨c, hc, h1⟩ | h1)
  ·exact ⟨c, List.mem_append_left _ hc, h1⟩
  ·exact ⟨_, List.mem_append_right _ (by simp), h1⟩
noncomputable def densL (xs : List Rect) (w p : Int) : List Rect := if (isReg xs && within w 4 40 && within p 1 100) = true then canon (zipB minB (celL (Bare (bits xs) (windL w) p)) (bits xs)) else []
theorem markDens_s {v : Value} {xs : List Rect} {w p : Int} (h1 : Rs G L rectT v xs) (k : ∀ v', R v' G (osl 101 rectT v' (densL xs w p) :: L)) : CallT Tryz.prog 175 #[v, vi w, vi p] G L R := by
 refine CallT.enter (args := _) Tryz.func175 rfl rfl (by kernel_rfl) rfl ?_
 refine WP.sr (RG.p (PV.asg rfl rfl) (RG.nil (WP.seq (WP.sr (RG.p (PV.move (v := v) rfl rfl) ?_)))))
 refine RG.callF (vs := [v]) rfl rfl En54 rfl (l03Ok_s (Rs.up h1) ?_)
 refine RG.p (PV.not rfl rfl) (RG.bl rfl ?_)
 refine RG.g rfl (fun hp => (PV.mvI (.inl rfl) rfl)) ?_
 refine RG.g rfl (fun hp => (PV.lss rfl (gt' hp) rfl)) ?_
 refine RG.p (PV.pickO rfl rfl rfl (fun hq => gt' (geqF hq))) (RG.bl rfl ?_)
 refine RG.g rfl (fun hp => (PV.mvI (.inl rfl) rfl)) ?_
 refine RG.g rfl (fun hp => (PV.gtr rfl (gt' hp) rfl)) ?_
 refine RG.p (PV.pickO rfl rfl rfl (fun hq => gt' (geqF hq))) (RG.bl rfl ?_)
 refine RG.g rfl (fun hp => (PV.mvI (.inl rfl) rfl)) ?_
 refine RG.g rfl (fun hp => (PV.lss rfl (gt' hp) rfl)) ?_
 refine RG.p (PV.pickO rfl rfl rfl (fun hq => gt' (geqF hq))) (RG.bl rfl ?_)
 refine RG.g rfl (fun hp => (PV.mvI (.inl rfl) rfl)) ?_
 refine RG.g rfl (fun hp => (PV.gtr rfl (gt' hp) rfl)) ?_
 refine RG.p (PV.pickO rfl rfl rfl (fun hq => gt' (geqF hq))) (RG.nil ?_)
 refine WP.cond rfl (fun h3 => ?_) fun h3 => ?_
 ·have e : densL xs w p = [] := by
   rw [densL, if_neg]
   intro h4
   simp only [Bool.and_eq_true, within, decide_eq_true_eq] at h4
   simp [h4.1.1] at h3; omega
  rw [e] at k
  refine WP.sr ?_
  refine RG.ot rfl (OT.bslice (F := rectT) (els := []) rfl El50 rfl (by decide) rfl (by decide) trivial fun v31 => ?_)
  refine RG.p (PV.asg (v := v31) rfl rfl) (RG.nil ?_)
  exact WP.ret ⟨_, _, rv rfl rfl, Cv.p, k v31⟩
 ·have hreg : isReg xs = true := by cases g1 : isReg xs <;> simp_all
  have hpw : (4 <= w ∧ w <= 40) ∧ 1 <= p ∧ p <= 100 := by rw [hreg] at h3; simp at h3; omega
  have hpb := hpw.2
  have hbx := bits_length xs
  have hzl := (windL_facts w).1
  have hzv := (windL_facts w).2
  have e0 : densL xs w p = canon (zipB minB (celL (Bare (bits xs) (windL w) p)) (bits xs)) := by rw [densL, if_pos]; simp [hreg, within, hpw.1.1, hpw.1.2, hpb.1, hpb.2]
  rw [e0] at k
  refine WP.skip (WP.sr (RG.p (PV.move (v := v) rfl rfl) ?_))
  refine RG.callF (vs := [v]) rfl rfl En104 rfl (l03Bits_s (Rs.up h1) (fun i hi => valid_get (isReg_valid hreg) hi) (fun v33 => ?_))
  refine RG.p (PV.asg (v := v33) rfl rfl) (RG.nil (WP.sr (RG.p (PV.move (v := v33) rfl rfl) (RG.p (PV.len (v := v33) rfl Tryz.underlying148 rfl SlF.o) ?_))))
  refine RG.ot rfl (OT.make (F := boolT) (a0 := false) rfl El148 rfl (by decide) rfl rfl (by omega) (by omega) fun v36 => ?_)
  refine RG.p (PV.asg (v := v36) rfl rfl) (RG.nil (WP.sr (RG.ml rfl ?_)))
  refine RG.callF (vs := [_]) rfl rfl En218 rfl (windows_s (fun v38 => ?_))
  refine RG.p (PV.asg (v := v38) rfl rfl) (RG.nil (WP.seq (WP.sr (RG.mr rfl (RG.nil (WP.block ?_))))))
  refine WP.loop3 [2, 7, 9] (fun (i : Nat) (E : List Bool) (q : Value) => i <= (windL w).length ∧ Is E (Bare (bits xs) ((windL w).take i) p)) (fun (i : Nat) (E : List Bool) (q : Value) => [(10, vi i), (8, q)]) (fun (i : Nat) (E : List Bool) (q : Value) => osl 4 boolT q E :: osl 101 rectT v38 (windL w) :: osl 4 boolT v33 (bits xs) :: L) (fun (i : Nat) (E : List Bool) (q : Value) => (windL w).length - i) 0 (List.replicate (bits xs).length false) v36 ⟨by omega, Is.none _ hbx fun v u _ _ => by rintro ⟨c, hc, _⟩; simp at hc⟩ ⟨rfl, rfl, trivial⟩ Cv.p ?_
  rintro i E q τ ⟨hi, hE⟩
  refine WP.seq (WP.sr (RG.ml rfl (RG.p (PV.move (v := v38) rfl rfl) (RG.p (PV.len (v := v38) rfl Tryz.underlying50 rfl SlF.o) (RG.p (PV.lss rfl rfl rfl) (RG.nil ?_))))))
  have hEl := hE.1
  refine WP.cond rfl (fun h5 => ?_) fun h5 => ?_
  ·have h5 := odt h5
   have hvi := hzv _ (gd_mem (show i < (windL w).length by omega))
   have hlb := len_bd hvi
   have hmb := mulP_bd hpb hlb
   have hcb := covB_bd (S := bits xs) hvi
   have hnx := fun y x => Bare.next (S := bits xs) (ws := windL w) (p := p) (y := y) (x := x) (i := i) (by omega)
   have hla : lenR (gd (windL w) i) = areaR (gd (windL w) i) := rfl
   refine WP.skip (WP.seq (WP.block (WP.seq ?_)))
   refine WP.regionQ (by kernel_rfl) (by kernel_rfl) ?_
   refine RQ.pv rfl (PV.move (v := v33) rfl rfl) (RQ.pv rfl (PV.move (v := v38) rfl rfl) (RQ.pv rfl (PV.mvI (.inl rfl) rfl) (RQ.pv rfl (PV.idxS (v := v38) rfl Is50 rfl SlF.o rfl rfl (by omega)) (RQ.pv rfl (PV.loadE rfl Ag101 rfl rfl (El.o (getG (by omega)))) ?_))))
   refine RQ.callF (vs := [v33, _]) rfl rfl En219 rfl (covd_s Rs.o (bits_length _) (hzv _ (gd_mem (by omega))) ⟨rfl, rfl, rfl⟩) ?_
   refine RQ.pv rfl (PV.mul rfl rfl rfl (by omega)) (RQ.pv rfl (PV.mvI (.inl rfl) rfl) (RQ.pv rfl (PV.move (v := v38) rfl rfl) (RQ.pv rfl (PV.mvI (.inl rfl) rfl) (RQ.pv rfl (PV.idxS (v := v38) rfl Is50 rfl SlF.o rfl rfl (by omega)) (RQ.pv rfl (PV.loadE rfl Ag101 rfl rfl (El.o (getG (by omega)))) ?_)))))
   refine RQ.callF (vs := [_]) rfl rfl En220 rfl (len17_s (hzv _ (gd_mem (by omega))) ⟨rfl, rfl, rfl⟩) ?_
   refine RQ.pv rfl (PV.mul rfl rfl rfl (by omega)) (RQ.pv rfl (PV.lss rfl rfl rfl) (RQ.nil ?_))
   refine WP.cond rfl (fun h6 => ?_) fun h6 => ?_
   ·have h6 : 100 * covB (bits xs) (gd (windL w) i) < p * areaR (gd (windL w) i) := by rw [<- hla]; simpa using h6
    refine WP.region (RG.p (PV.move (v := q) rfl rfl) (RG.p (PV.move (v := v38) rfl rfl) (RG.ml rfl (RG.p (PV.idxS (v := v38) rfl Is50 rfl SlF.o rfl rfl (by omega)) (RG.p (PV.loadE rfl Ag101 rfl rfl (El.o (getG (by omega)))) ?_)))))
    refine RG.callF (vs := [q, _]) rfl rfl En221 rfl (CallT.exS q (fill_s hEl (hzv _ (gd_mem (by omega))) (fun D' hD' hg' => ?_)))
    refine RG.p (PV.asg rfl rfl) (RG.nil (WP.region (RG.ml rfl (RG.p (PV.add rfl rfl rfl (by omega)) (RG.mr rfl (RG.nil ?_))))))
    exact ⟨rfl, i + 1, D', q, ⟨by omega, hD', fun y x hy hx => by rw [hg' y x hy hx, Bool.or_eq_true, hE.2 y x hy hx, hnx]; simp [h6]⟩, ⟨rfl, rfl, trivial⟩, ⟨rfl, rfl, rfl, trivial⟩, Cv.p, by omega⟩
   ·have h6 : ¬ 100 * covB (bits xs) (gd (windL w) i) < p * areaR (gd (windL w) i) := by rw [<- hla]; simpa using h6
    refine WP.skip (WP.region (RG.ml rfl (RG.p (PV.add rfl rfl rfl (by omega)) (RG.mr rfl (RG.nil ?_)))))
    exact ⟨rfl, i + 1, E, q, ⟨by omega, hE.congr fun y x _ _ => by rw [hnx]; simp [h6]⟩, ⟨rfl, rfl, trivial⟩, ⟨rfl, rfl, rfl, trivial⟩, Cv.p, by omega⟩
  ·have h5 := odf h5
   rw [List.take_of_length_le (by omega)] at hE
   have hEc : E = celL (Bare (bits xs) (windL w) p) := celL_eq hE.1 hE.2
   rw [<- hEc] at k
   refine WP.exit (WP.seq (WP.sr (RG.mr rfl (RG.nil (WP.block ?_)))))
   refine WP.loop2 [7, 8] (fun (j : Nat) (D : List Bool) => j <= 6400 ∧ ZI minB E (bits xs) j D) (fun (j : Nat) (D : List Bool) => [(11, vi j)]) (fun (j : Nat) (D : List Bool) => osl 4 boolT q D :: osl 4 boolT v33 (bits xs) :: L) (fun (j : Nat) (D : List Bool) => 6400 - j) 0 E ⟨by omega, ZI.start hEl⟩ ⟨rfl, trivial⟩ Cv.p ?_
   rintro j D τ1 ⟨hj, hD⟩
   refine WP.seq (WP.sr (RG.ml rfl (RG.p (PV.move (v := q) rfl rfl) (RG.p (PV.len (v := q) rfl Tryz.underlying148 rfl SlF.o) (RG.p (PV.lss rfl rfl rfl) (RG.nil ?_))))))
   have hDl := hD.1
   refine WP.cond rfl (fun h6 => ?_) fun h6 => ?_
   ·have h6 := odt h6
    refine WP.skip (WP.seq (WP.block (WP.region (RG.p (PV.move (v := q) rfl rfl) (RG.ml rfl (RG.p (PV.move (v := q) rfl rfl) (RG.ml rfl (RG.p (PV.idxS (v := q) rfl Is148 rfl SlF.o rfl rfl (by omega)) (RG.p (PV.loadE1 rfl Sc4 rfl rfl (El.o (getG (by omega))) rfl) (RG.bl rfl ?_))))))))))
    refine RG.g rfl (fun hp => (PV.move (v := v33) rfl rfl)) ?_
    refine RG.g rfl (fun hp => (PV.mvI (.inl rfl) rfl)) ?_
    refine RG.g rfl (fun hp => (PV.idxS (v := v33) rfl Is148 (gt' hp) SlF.o (gt' hp) rfl (by first | omega | (simp at hp; omega)))) ?_
    refine RG.g rfl (fun hp => (PV.loadE1 rfl Sc4 (gt' hp) rfl (El.o (getG (by first | omega | (simp at hp; omega)))) rfl)) ?_
    refine RG.g rfl (fun hp => (PV.not rfl (gt' hp))) ?_
    refine RG.p (PV.pickA rfl rfl (fun hq => gt' (geqT hq)) rfl) (RG.p (PV.idxS (v := q) rfl Is148 rfl SlF.o rfl rfl (by omega)) ?_)
    refine RG.ot rfl (OT.storeE (F := boolT) rfl Sz4 rfl rfl rfl (Cl.c rfl) (OneC.c rfl) (by omega) ?_)
    refine RG.nil (WP.region (RG.ml rfl (RG.p (PV.add rfl rfl rfl (by omega)) (RG.mr rfl (RG.nil ?_)))))
    exact ⟨rfl, j + 1, (D.set j (gd D j && !gd (bits xs) j)), ⟨by omega, hD.step (by omega)⟩, ⟨rfl, trivial⟩, ⟨rfl, rfl, trivial⟩, Cv.p, by omega⟩
   ·have h6 := odf h6
    obtain rfl : j = 6400 := by omega
    obtain rfl := hD.done hEl hbx
    refine WP.exit (WP.sr (RG.p (PV.move (v := q) rfl rfl) ?_))
    refine RG.callF (vs := [q]) rfl rfl En103 rfl (l03Canon_s Rs.o hDl (fun v87 => ?_))
    refine RG.p (PV.asg (v := v87) rfl rfl) (RG.nil ?_)
    exact WP.ret ⟨_, _, rv rfl rfl, Cv.p, k v87⟩
theorem Seen.skip {S : List Bool} {ver : Bool} {out : List Rect} {i k k' : Int} (h : Seen S ver out i k) (e : ∀ u, k <= u -> u < k' -> cv S ver i u = true -> cv S ver i (u - 1) = true) : Seen S ver out i k' := fun l s h1 h2 h3 => by
 by_cases c : l = i ∧ k <= s
 ·obtain ⟨rfl, c⟩ := c
  have := e s c (by omega) h2
  rw [h3] at this; cases this
 ·exact h l s (by omega) h2 h3
structure LnI (D : List Bool) (ver : Bool) (l : Int) (out : List Rect) (i : Int) : Prop where
  run : RunL D ver out
  seen : Seen D ver out l (i - 40)
  bd : cv D ver l (i - 40) = true -> cv D ver l (i - 40 - 1) = false
theorem LnI.bd' {D : List Bool} {ver : Bool} {l i e : Int} (hi : 0 <= i ∧ i < e ∧ e <= 80) (hall : ∀ u, i <= u -> u < e -> cv D ver l (u - 40) = cv D ver l (i - 40)) (hend : e = 80 ∨ cv D ver l (e - 40) ≠ cv D ver l (i - 40)) : cv D ver l (e - 40) = true -> cv D ver l (e - 40 - 1) = false := fun h => by
 have hr := cv_rng h
 have h1 : cv D ver l (e - 40) ≠ cv D ver l (i - 40) := by
  rcases hend with h2 | h2
  ·omega
  ·exact h2
 have h2 := hall (e - 1) (by omega) (by omega)
 rw [show e - 1 - 40 = e - 40 - 1 by omega] at h2
 rw [h2]; rw [h] at h1
 cases h3 : cv D ver l (i - 40)
 ·rfl
 ·exact absurd h3.symm h1
theorem LnI.miss {D : List Bool} {ver : Bool} {l : Int} {out : List Rect} {i e : Int} (h : LnI D ver l out i) (hi : 0 <= i ∧ i < e ∧ e <= 80) (hall : ∀ u, i <= u -> u < e -> cv D ver l (u - 40) = cv D ver l (i - 40)) (hend : e = 80 ∨ cv D ver l (e - 40) ≠ cv D ver l (i - 40)) (hc : cv D ver l (i - 40) = false) : LnI D ver l out e :=
by
 refine ⟨h.run, h.seen.skip fun u h1 h2 h3 => ?_, LnI.bd' hi hall hend⟩
 have := hall (u + 40) (by omega) (by omega)
 rw [show u + 40 - 40 = u by omega, h3, hc] at this; cases this
theorem LnI.isRun {D : List Bool} {ver : Bool} {l : Int} {out : List Rect} {i e : Int} (h : LnI D ver l out i) (hl : -40 <= l ∧ l < 40) (hi : 0 <= i ∧ i < e ∧ e <= 80) (hall : ∀ u, i <= u -> u < e -> cv D ver l (u - 40) = cv D ver l (i - 40)) (hend : e = 80 ∨ cv D ver l (e - 40) ≠ cv D ver l (i - 40)) (hc : cv D ver l (i - 40) = true) : isRun D ver l (i - 40) (i - 40) (e - 40) := by
 refine ⟨by omega, by omega, fun u h1 h2 => ?_, h.bd hc, ?_⟩
 ·have := hall (u + 40) (by omega) (by omega)
  rw [show u + 40 - 40 = u by omega, hc] at this; exact this
 ·cases h1 : cv D ver l (e - 40) with
  | false => rfl
  | true =>
   have h2 := LnI.bd' hi hall hend h1
   have h3 := hall (e - 1) (by omega) (by omega)
   rw [show e - 1 - 40 = e - 40 - 1 by omega, h2, hc] at h3; cases h3
theorem LnI.start {D : List Bool} {ver : Bool} {l : Int} {out : List Rect} (hr : RunL D ver out) (hs : Seen D ver out l (-40)) : LnI D ver l out 0 := by
 refine ⟨hr, hs, fun _ => ?_⟩
 cases h2 : cv D ver l (0 - 40 - 1) with
 | false => rfl
 | true => have := cv_rng h2; omega
theorem LnI.hit {D : List Bool} {ver : Bool} {l : Int} {out : List Rect} {i e : Int} (h : LnI D ver l out i) (hl : -40 <= l ∧ l < 40) (hi : 0 <= i ∧ i < e ∧ e <= 80) (hall : ∀ u, i <= u -> u < e -> cv D ver l (u - 40) = cv D ver l (i - 40)) (hend : e = 80 ∨ cv D ver l (e - 40) ≠ cv D ver l (i - 40)) (hc : cv D ver l (i - 40) = true) : LnI D ver l (out ++ [lineR ver l (i - 40) (e - 40)]) e := by
 have hr := h.isRun hl hi hall hend hc
 refine ⟨h.run.add hr, (h.seen.add hr).skip fun u h1 h2 h3 => ?_, LnI.bd' hi hall hend⟩
 have := hall (u - 1 + 40) (by omega) (by omega)
 rw [show u - 1 + 40 - 40 = u - 1 by omega, hc] at this; exact this
theorem one_inj {a b : Bool} : one a = one b ↔ a = b := by cases a <;> cases b <;> simp [one]
theorem one_ne {a : Bool} : one a ≠ 0 ↔ a = true := by cases a <;> simp [one]
theorem lineRect_i {l a b : Int} {ver : Bool} (hl : -1000 <= l ∧ l <= 1000) (k : R (vrect (lineR ver l a b)) G L) : CallT Tryz.prog 235 #[vi l, vi a, vi b, .bool ver] G L R := by
 refine CallT.enter (args := _) Tryz.func235 rfl rfl (by kernel_rfl) rfl ?_
 refine WP.sr ?_
 refine RG.ot rfl (OT.alloc rfl Zr101 fun b8 => ?_)
 refine RG.nil (WP.seq (WP.sr (RG.bl rfl (RG.nil ?_))))
 refine WP.cond rfl (fun h => ?_) fun h => ?_
 ·subst h
  refine WP.sr (RG.ml rfl (RG.ml rfl (RG.ml rfl (RG.p (PV.add rfl rfl rfl (by omega)) (RG.ml rfl (RG.p (PV.build (vs := [(0, [vi _]), (1, [vi _]), (2, [vi _]), (3, [vi _])]) (out := [_, _, _, _]) rfl Zr101 Pl101 ⟨rfl, (Cl.c rfl), ⟨rfl, (Cl.c rfl), ⟨rfl, (Cl.c rfl), ⟨rfl, (Cl.c rfl), trivial⟩⟩⟩⟩ rfl) ?_))))))
  refine RG.ot rfl (OT.storeW (vs := [vi _, vi _, vi _, vi _]) rfl Sz101 rfl rfl (Cl.c rfl) rfl rfl (OneC.c rfl) ?_)
  refine RG.nil ?_
  exact WP.ret ⟨_, _, ResV.one rfl (RV1.cell rfl Ag101 rfl), Cv.p, k⟩
 ·subst h
  refine WP.skip (WP.sr (RG.ml rfl (RG.ml rfl (RG.ml rfl (RG.ml rfl (RG.p (PV.add rfl rfl rfl (by omega)) (RG.p (PV.build (vs := [(0, [vi _]), (1, [vi _]), (2, [vi _]), (3, [vi _])]) (out := [_, _, _, _]) rfl Zr101 Pl101 ⟨rfl, (Cl.c rfl), ⟨rfl, (Cl.c rfl), ⟨rfl, (Cl.c rfl), ⟨rfl, (Cl.c rfl), trivial⟩⟩⟩⟩ rfl) ?_)))))))
  refine RG.ot rfl (OT.storeW (vs := [vi _, vi _, vi _, vi _]) rfl Sz101 rfl rfl (Cl.c rfl) rfl rfl (OneC.c rfl) ?_)
  refine RG.nil ?_
  exact WP.ret ⟨_, _, ResV.one rfl (RV1.cell rfl Ag101 rfl), Cv.p, k⟩
theorem at_i {b bl bv bp : Nat} {D : List Bool} {ver : Bool} {l i : Int} (hD : D.length = 6400) (hi : -1000 <= i ∧ i <= 1000) (k : R (vi (one (cv D ver l (i - 40)))) G (blk bl 2 [vi l] :: blk bv 4 [.bool ver] :: blk bp 122 [.pointer (some ⟨b, 0, none⟩)] :: grd b D :: L)) :
  CallT Tryz.prog 233 #[vi i, .pointer (some ⟨bl, 0, none⟩), .pointer (some ⟨bv, 0, none⟩), .pointer (some ⟨bp, 0, none⟩)] G (blk bl 2 [vi l] :: blk bv 4 [.bool ver] :: blk bp 122 [.pointer (some ⟨b, 0, none⟩)] :: grd b D :: L) R := by
 refine CallT.enter (args := _) Tryz.func233 rfl rfl (by kernel_rfl) rfl ?_
 refine WP.sr (RG.mr rfl (RG.nil (WP.seq ?_)))
 refine WP.regionQ (by kernel_rfl) (by kernel_rfl) ?_
 refine RQ.pv rfl (PV.mvI (.inl rfl) rfl) (RQ.pv rfl (PV.sub rfl rfl rfl (by omega)) (RQ.pv rfl (PV.load1 rfl Sc2 rfl (Rd.blk rfl)) (RQ.pv rfl (PV.mvI (.inr rfl) rfl) (RQ.pv rfl (PV.mvI (.inr rfl) rfl) (RQ.nil (WP.seq (WP.sr (RG.p (PV.load1 rfl Sc4 rfl (Rd.blk rfl)) (RG.nil ?_)))))))))
 refine WP.cond rfl (fun hv => ?_) fun hv => ?_
 ·subst hv
  have e : cv D true l (i - 40) = cellB D l (i - 40) := rfl
  rw [e] at k
  refine WP.region (RG.ml rfl (RG.ml rfl (RG.mr rfl (RG.mr rfl (RG.nil (WP.seq (WP.sr (RG.p (PV.load1 rfl Sc122 rfl (Rd.blk rfl)) (RG.ml rfl (RG.ml rfl ?_))))))))))
  refine RG.callF (vs := [_, _, _]) rfl rfl En194 rfl (CallT.exB (has_s hD ?_))
  refine RG.nil ?_
  refine WP.cond rfl (fun h => ?_) fun h => ?_
  ·rw [h] at k
   refine WP.sr (RG.mr rfl (RG.nil ?_))
   exact WP.ret ⟨_, _, rv rfl rfl, Cv.p, k⟩
  ·rw [h] at k
   refine WP.skip (WP.sr (RG.mr rfl (RG.nil ?_)))
   exact WP.ret ⟨_, _, rv rfl rfl, Cv.p, k⟩
 ·subst hv
  have e : cv D false l (i - 40) = cellB D (i - 40) l := rfl
  rw [e] at k
  refine WP.skip (WP.seq (WP.sr (RG.p (PV.load1 rfl Sc122 rfl (Rd.blk rfl)) (RG.ml rfl (RG.ml rfl ?_)))))
  refine RG.callF (vs := [_, _, _]) rfl rfl En194 rfl (CallT.exB (has_s hD ?_))
  refine RG.nil ?_
  refine WP.cond rfl (fun h => ?_) fun h => ?_
  ·rw [h] at k
   refine WP.sr (RG.mr rfl (RG.nil ?_))
   exact WP.ret ⟨_, _, rv rfl rfl, Cv.p, k⟩
  ·rw [h] at k
   refine WP.skip (WP.sr (RG.mr rfl (RG.nil ?_)))
   exact WP.ret ⟨_, _, rv rfl rfl, Cv.p, k⟩
theorem yield_i {bo bl bv : Nat} {ver : Bool} {l a b n : Int} {q : Value} {out : List Rect} (hl : -1000 <= l ∧ l <= 1000) (hol : out.length <= 100000) (k : ∀ q', R (.tuple #[]) G (blk bl 2 [vi l] :: blk bv 4 [.bool ver] :: blk bo 50 [q'] :: osl 101 rectT q' (out ++ [lineR ver l a b]) :: L)) :
  CallT Tryz.prog 234 #[vi a, vi b, vi n, .pointer (some ⟨bo, 0, none⟩), .pointer (some ⟨bl, 0, none⟩), .pointer (some ⟨bv, 0, none⟩)] G (blk bl 2 [vi l] :: blk bv 4 [.bool ver] :: blk bo 50 [q] :: osl 101 rectT q out :: L) R := by
 refine CallT.enter (args := _) Tryz.func234 rfl rfl (by kernel_rfl) rfl ?_
 refine WP.regionHD [.b bo, .s q] (.q 1 (.q 2 (.q 3 (.q 4 (.b 0 (.l 5 (.l 6 (.l 7 (.l 8 Sch.nil)))) 5 (.b 0 (.l 6 (.l 7 (.l 8 Sch.nil))) 6 (.l 0 (.l 7 (.l 8 Sch.nil))))))))) (by kernel_rfl) (by kernel_rfl) (by kernel_rfl) rfl ?_
 refine RH.w rfl rfl (PV.load1 rfl Sc2 rfl (Rd.blk rfl)) (RH.w rfl rfl (PV.mvI (.inl rfl) rfl) (RH.w rfl rfl (PV.mvI (.inl rfl) rfl) (RH.w rfl rfl (PV.load1 rfl Sc4 rfl (Rd.blk rfl)) ?_)))
 refine RH.ot2 rfl rfl rfl rfl (OT.pv (PV.load1 rfl Sc50 rfl (Rd.blk rfl)) (kp ?_)) (OT.callF (vs := [_, _, _, _]) rfl En235 rfl (lineRect_i hl (kp ?_)))
 ·skip
  refine RH.ot rfl rfl (OT.callF (vs := [_, _, _, _]) rfl En235 rfl (lineRect_i hl (kp ?_)))
  refine RH.ot rfl rfl (OT.bslice (F := rectT) (els := [_]) rfl El50 rfl (by decide) rfl (by decide) ⟨rfl, (Cl.c rfl), trivial⟩ fun v15 => (kp ?_))
  refine RH.ot rfl rfl (OT.append (v := q) (u := v15) (F := rectT) rfl El50 rfl (by decide) rfl rfl Rs.o (OneL.c (fun _ => rfl)) rfl (by first | omega | (simp <;> omega)) fun v16 => (kp ?_))
  refine RH.ot rfl rfl (OT.storeW (v := v16) (vs := [_]) rfl Sz50 rfl rfl (Cl.s (v := v16) SlF.o) rfl rfl (OneC.sl SlF.o OneC.nil) (kp ?_))
  refine RH.nil ?_
  exact ⟨_, _, ResV.zero rfl, Cv.p, k v16⟩
 ·skip
  refine RH.ot2 rfl rfl rfl rfl (OT.pv (PV.load1 rfl Sc50 rfl (Rd.blk rfl)) (kp ?_)) (OT.bslice (F := rectT) (els := [_]) rfl El50 rfl (by decide) rfl (by decide) ⟨rfl, (Cl.c rfl), trivial⟩ fun v15 => (kp ?_))
  ·skip
   refine RH.ot rfl rfl (OT.bslice (F := rectT) (els := [_]) rfl El50 rfl (by decide) rfl (by decide) ⟨rfl, (Cl.c rfl), trivial⟩ fun v15 => (kp ?_))
   refine RH.ot rfl rfl (OT.append (v := q) (u := v15) (F := rectT) rfl El50 rfl (by decide) rfl rfl Rs.o (OneL.c (fun _ => rfl)) rfl (by first | omega | (simp <;> omega)) fun v16 => (kp ?_))
   refine RH.ot rfl rfl (OT.storeW (v := v16) (vs := [_]) rfl Sz50 rfl rfl (Cl.s (v := v16) SlF.o) rfl rfl (OneC.sl SlF.o OneC.nil) (kp ?_))
   refine RH.nil ?_
   exact ⟨_, _, ResV.zero rfl, Cv.p, k v16⟩
  ·skip
   refine RH.ot rfl rfl (OT.pv (PV.load1 rfl Sc50 rfl (Rd.blk rfl)) (kp ?_))
   refine RH.ot rfl rfl (OT.append (v := q) (u := v15) (F := rectT) rfl El50 rfl (by decide) rfl rfl Rs.o (OneL.c (fun _ => rfl)) rfl (by first | omega | (simp <;> omega)) fun v16 => (kp ?_))
   refine RH.ot rfl rfl (OT.storeW (v := v16) (vs := [_]) rfl Sz50 rfl rfl (Cl.s (v := v16) SlF.o) rfl rfl (OneC.sl SlF.o OneC.nil) (kp ?_))
   refine RH.nil ?_
   exact ⟨_, _, ResV.zero rfl, Cv.p, k v16⟩
theorem runs_i {b bl bv bp bo : Nat} {D : List Bool} {ver : Bool} {l : Int} {q : Value} {out : List Rect} (hD : D.length = 6400) (hl : -40 <= l ∧ l < 40) (hol : out.length <= 6400) (hr : RunL D ver out) (hs : Seen D ver out l (-40))
  (k : ∀ q' out', out'.length <= out.length + 80 -> RunL D ver out' -> Seen D ver out' l 40 -> R (.tuple #[]) G (blk bl 2 [vi l] :: blk bv 4 [.bool ver] :: blk bp 122 [.pointer (some ⟨b, 0, none⟩)] :: blk bo 50 [q'] :: osl 101 rectT q' out' :: grd b D :: L)) :
  CallT Tryz.prog 232 #[.func (.func 233) #[] #[.pointer (some ⟨bl, 0, none⟩), .pointer (some ⟨bv, 0, none⟩), .pointer (some ⟨bp, 0, none⟩)], .func (.func 234) #[] #[.pointer (some ⟨bo, 0, none⟩), .pointer (some ⟨bl, 0, none⟩), .pointer (some ⟨bv, 0, none⟩)]] G (blk bl 2 [vi l] :: blk bv 4 [.bool ver] :: blk bp 122 [.pointer (some ⟨b, 0, none⟩)] :: blk bo 50 [q] :: osl 101 rectT q out :: grd b D :: L) R := by
 refine CallT.enter (args := _) Tryz.func232 rfl rfl (by kernel_rfl) rfl ?_
 refine WP.sr (RG.mr rfl (RG.nil (WP.block ?_)))
 refine WP.loop3 [0, 1] (fun (i : Int) (out1 : List Rect) (q1 : Value) => (0 <= i ∧ i <= 80) ∧ (out1.length : Int) <= out.length + i ∧ LnI D ver l out1 i) (fun (i : Int) (out1 : List Rect) (q1 : Value) => [(4, vi i)]) (fun (i : Int) (out1 : List Rect) (q1 : Value) => blk bl 2 [vi l] :: blk bv 4 [.bool ver] :: blk bp 122 [.pointer (some ⟨b, 0, none⟩)] :: blk bo 50 [q1] :: osl 101 rectT q1 out1 :: grd b D :: L) (fun (i : Int) (out1 : List Rect) (q1 : Value) => (80 - i).toNat) 0 out q ⟨by omega, by omega, LnI.start hr hs⟩ ⟨rfl, trivial⟩ Cv.p ?_
 rintro i out1 q1 τ ⟨hi, hlen, hI⟩
 refine WP.seq (WP.sr (RG.ml rfl (RG.p (PV.lss rfl rfl rfl) (RG.nil ?_))))
 refine WP.cond rfl (fun h2 => ?_) fun h2 => ?_
 ·have h2 := odt h2
  refine WP.skip (WP.block (WP.sr (RG.ml rfl (RG.p (PV.add rfl rfl rfl (by omega)) (RG.mr rfl (RG.nil (WP.seq (WP.block ?_))))))))
  refine WP.loop1 [0, 1, 4] (fun (e : Int) => (i + 1 <= e ∧ e <= 80) ∧ ∀ u, i <= u -> u < e -> cv D ver l (u - 40) = cv D ver l (i - 40)) (fun (e : Int) => [(5, vi e)]) (fun (e : Int) => blk bl 2 [vi l] :: blk bv 4 [.bool ver] :: blk bp 122 [.pointer (some ⟨b, 0, none⟩)] :: blk bo 50 [q1] :: osl 101 rectT q1 out1 :: grd b D :: L) (fun (e : Int) => (80 - e).toNat) (i + 1) ⟨by omega, fun u h3 h4 => by rw [show u = i by omega]⟩ ⟨rfl, trivial⟩ Cv.p ?_
  rintro e τ1 ⟨he, hall⟩
  refine WP.seq (WP.sr (RG.ml rfl (RG.p (PV.lss rfl rfl rfl) (RG.bl rfl ?_))))
  refine RG.spl (t := 12) rfl (fun g1 => ?_) (fun g1 => ?_)
  ·have g2 := odt g1
   refine RG.take rfl rfl rfl g1 ?_
   refine RG.p (PV.move rfl rfl) ?_
   refine RG.take rfl rfl rfl g1 ?_
   refine RG.ml rfl ?_
   refine RG.take rfl rfl rfl g1 ?_
   refine RG.callK (vs := [_, _, _, _]) rfl rfl rfl En233 rfl (CallT.exB (b := b) (CallT.exB (b := bp) (CallT.exB (b := bv) (CallT.exB (b := bl) (at_i hD (by omega) ?_)))))
   refine RG.take rfl rfl rfl g1 ?_
   refine RG.p (PV.move rfl rfl) ?_
   refine RG.take rfl rfl rfl g1 ?_
   refine RG.ml rfl ?_
   refine RG.take rfl rfl rfl g1 ?_
   refine RG.callK (vs := [_, _, _, _]) rfl rfl rfl En233 rfl (CallT.exB (b := b) (CallT.exB (b := bp) (CallT.exB (b := bv) (CallT.exB (b := bl) (at_i hD (by omega) ?_)))))
   refine RG.take rfl rfl rfl g1 ?_
   refine RG.p (PV.eql rfl rfl rfl) (RG.p (PV.pickT rfl rfl g1 rfl) (RG.nil ?_))
   refine WP.cond rfl (fun h3 => ?_) fun h3 => ?_
   ·have h3 := one_inj.1 (odt h3)
    have hall' : ∀ u, i <= u -> u < e + 1 -> cv D ver l (u - 40) = cv D ver l (i - 40) := fun u h4 h5 => by
     by_cases c : u = e
     ·rw [c]; exact h3
     ·exact hall u h4 (by omega)
    refine WP.skip (WP.block (WP.region (RG.ml rfl (RG.p (PV.add rfl rfl rfl (by omega)) (RG.mr rfl (RG.nil ?_))))))
    exact ⟨rfl, e + 1, ⟨by omega, hall'⟩, ⟨rfl, trivial⟩, ⟨rfl, rfl, rfl, trivial⟩, Cv.p, by omega⟩
   ·have h3 : cv D ver l (e - 40) ≠ cv D ver l (i - 40) := fun h4 => odf h3 (one_inj.2 h4)
    refine WP.exit (WP.seq (WP.sr (RG.p (PV.move rfl rfl) (RG.ml rfl ?_))))
    refine RG.callK (vs := [_, _, _, _]) rfl rfl rfl En233 rfl (CallT.exB (b := b) (CallT.exB (b := bp) (CallT.exB (b := bv) (CallT.exB (b := bl) (at_i hD (by omega) ?_)))))
    refine RG.p (PV.neq rfl rfl rfl) (RG.nil ?_)
    refine WP.cond rfl (fun h4 => ?_) fun h4 => ?_
    ·have h4 : cv D ver l (i - 40) = true := one_ne.1 (by simpa using h4)
     refine WP.region (RG.p (PV.move rfl rfl) (RG.ml rfl (RG.p (PV.sub rfl rfl rfl (by omega)) (RG.ml rfl (RG.p (PV.sub rfl rfl rfl (by omega)) (RG.p (PV.move rfl rfl) (RG.ml rfl ?_)))))))
     refine RG.callK (vs := [_, _, _, _]) rfl rfl rfl En233 rfl (CallT.exB (b := b) (CallT.exB (b := bp) (CallT.exB (b := bv) (CallT.exB (b := bl) (at_i hD (by omega) ?_)))))
     refine RG.callK (vs := [_, _, _, _, _, _]) rfl rfl rfl En234 rfl (CallT.exS q1 (CallT.exB (b := bo) (CallT.exB (b := bv) (CallT.exB (b := bl) (yield_i (by omega) (by omega) (fun q2 => ?_))))))
     refine RG.nil (WP.region (RG.ml rfl (RG.mr rfl (RG.nil ?_))))
     exact ⟨rfl, e, (out1 ++ [lineR ver l (i - 40) (e - 40)]), q2, ⟨by omega, by simp; omega, hI.hit hl (by omega) hall (.inr h3) h4⟩, ⟨rfl, trivial⟩, ⟨rfl, rfl, trivial⟩, Cv.p, by omega⟩
    ·have h4 : cv D ver l (i - 40) = false := by
      cases c : cv D ver l (i - 40) with
      | false => rfl
      | true => rw [c] at h4; simp [one] at h4
     refine WP.skip (WP.region (RG.ml rfl (RG.mr rfl (RG.nil ?_))))
     exact ⟨rfl, e, out1, q1, ⟨by omega, by omega, hI.miss (by omega) hall (.inr h3) h4⟩, ⟨rfl, trivial⟩, ⟨rfl, rfl, trivial⟩, Cv.p, by omega⟩
  ·have g2 := odf g1
   have h3 : e = 80 := by omega
   refine RG.skip rfl rfl rfl (gne g1) ?_
   refine RG.skip rfl rfl rfl (gne g1) ?_
   refine RG.skip rfl rfl rfl (gne g1) ?_
   refine RG.skip rfl rfl rfl (gne g1) ?_
   refine RG.skip rfl rfl rfl (gne g1) ?_
   refine RG.skip rfl rfl rfl (gne g1) ?_
   refine RG.skip rfl rfl rfl (gne g1) ?_
   refine RG.p (PV.pickE rfl rfl g1 rfl) (RG.nil ?_)
   refine WP.cond rfl (fun h5 => ?_) fun h5 => ?_
   ·cases h5
   ·refine WP.exit ?_
    refine WP.seq (WP.sr (RG.p (PV.move rfl rfl) (RG.ml rfl ?_)))
    refine RG.callK (vs := [_, _, _, _]) rfl rfl rfl En233 rfl (CallT.exB (b := b) (CallT.exB (b := bp) (CallT.exB (b := bv) (CallT.exB (b := bl) (at_i hD (by omega) ?_)))))
    refine RG.p (PV.neq rfl rfl rfl) (RG.nil ?_)
    refine WP.cond rfl (fun h4 => ?_) fun h4 => ?_
    ·have h4 : cv D ver l (i - 40) = true := one_ne.1 (by simpa using h4)
     refine WP.region (RG.p (PV.move rfl rfl) (RG.ml rfl (RG.p (PV.sub rfl rfl rfl (by omega)) (RG.ml rfl (RG.p (PV.sub rfl rfl rfl (by omega)) (RG.p (PV.move rfl rfl) (RG.ml rfl ?_)))))))
     refine RG.callK (vs := [_, _, _, _]) rfl rfl rfl En233 rfl (CallT.exB (b := b) (CallT.exB (b := bp) (CallT.exB (b := bv) (CallT.exB (b := bl) (at_i hD (by omega) ?_)))))
     refine RG.callK (vs := [_, _, _, _, _, _]) rfl rfl rfl En234 rfl (CallT.exS q1 (CallT.exB (b := bo) (CallT.exB (b := bv) (CallT.exB (b := bl) (yield_i (by omega) (by omega) (fun q2 => ?_))))))
     refine RG.nil (WP.region (RG.ml rfl (RG.mr rfl (RG.nil ?_))))
     exact ⟨rfl, e, (out1 ++ [lineR ver l (i - 40) (e - 40)]), q2, ⟨by omega, by simp; omega, hI.hit hl (by omega) hall (.inl h3) h4⟩, ⟨rfl, trivial⟩, ⟨rfl, rfl, trivial⟩, Cv.p, by omega⟩
    ·have h4 : cv D ver l (i - 40) = false := by
      cases c : cv D ver l (i - 40) with
      | false => rfl
      | true => rw [c] at h4; simp [one] at h4
     refine WP.skip (WP.region (RG.ml rfl (RG.mr rfl (RG.nil ?_))))
     exact ⟨rfl, e, out1, q1, ⟨by omega, by omega, hI.miss (by omega) hall (.inl h3) h4⟩, ⟨rfl, trivial⟩, ⟨rfl, rfl, trivial⟩, Cv.p, by omega⟩
 ·have h2 := odf h2
  obtain rfl : i = 80 := by omega
  refine WP.exit ?_
  exact ⟨_, _, ResV.zero rfl, Cv.p, k q1 out1 (by omega) hI.run hI.seen⟩
theorem runsOf_i {b : Nat} {D : List Bool} {ver : Bool} (hD : D.length = 6400) (k : ∀ v out, RunsOf D ver out -> R v G (osl 101 rectT v out :: grd b D :: L)) :
  CallT Tryz.prog 192 #[.pointer (some ⟨b, 0, none⟩), .bool ver] G (grd b D :: L) R := by
 refine CallT.enter (args := _) Tryz.func192 rfl rfl (by kernel_rfl) rfl ?_
 refine WP.sr ?_
 refine RG.ot rfl (OT.box (cs := [.pointer (some ⟨b, 0, none⟩)]) rfl rfl rfl fun b2 => ?_)
 refine RG.ot rfl (OT.box (cs := [.bool ver]) rfl rfl rfl fun b3 => ?_)
 refine RG.p (PV.asg rfl rfl) (RG.nil (WP.sr ?_))
 refine RG.ot rfl (OT.bslice (F := rectT) (els := []) rfl El50 rfl (by decide) rfl (by decide) trivial fun v7 => ?_)
 refine RG.ot rfl (OT.alloc rfl Zr50 fun b5 => ?_)
 refine RG.ot rfl (OT.storeW (v := v7) (vs := [_]) rfl Sz50 rfl rfl (Cl.s (v := v7) SlF.o) rfl rfl (OneC.sl SlF.o OneC.nil) ?_)
 refine RG.nil (WP.seq (WP.sr ?_))
 refine RG.ot rfl (OT.alloc rfl Zr2 fun b6 => ?_)
 refine RG.ot rfl (OT.storeW (vs := [vi _]) rfl Sz2 rfl rfl (Cl.c rfl) rfl rfl (OneC.c rfl) ?_)
 refine RG.nil (WP.block ?_)
 refine WP.loop4 [2, 3, 5] (fun (bl : Nat) (l : Int) (out : List Rect) (q : Value) => (-40 <= l ∧ l <= 40) ∧ (out.length : Int) <= (l + 40) * 80 ∧ RunL D ver out ∧ Seen D ver out l (-40)) (fun (bl : Nat) (l : Int) (out : List Rect) (q : Value) => [(6, .pointer (some ⟨bl, 0, none⟩))]) (fun (bl : Nat) (l : Int) (out : List Rect) (q : Value) => blk bl 2 [vi l] :: blk b3 4 [.bool ver] :: blk b2 122 [.pointer (some ⟨b, 0, none⟩)] :: blk b5 50 [q] :: osl 101 rectT q out :: grd b D :: L) (fun (bl : Nat) (l : Int) (out : List Rect) (q : Value) => (40 - l).toNat) b6 (-40) [] v7 ⟨by omega, by simp, RunL.nil, Seen.init⟩ ⟨rfl, trivial⟩ Cv.p ?_
 rintro bl l out q τ ⟨hl, hlen, hrl, hseen⟩
 refine WP.seq (WP.sr (RG.p (PV.load1 rfl Sc2 rfl (Rd.blk rfl)) (RG.p (PV.lss rfl rfl rfl) (RG.nil ?_))))
 refine WP.cond rfl (fun h2 => ?_) fun h2 => ?_
 ·have h2 := odt h2
  refine WP.skip (WP.seq (WP.block (WP.region (RG.p (PV.mkf3 rfl rfl rfl rfl) (RG.p (PV.mkf3 rfl rfl rfl rfl) ?_)))))
  refine RG.callF (vs := [_, _]) rfl rfl En232 rfl (CallT.exB (b := b) (CallT.exS q (CallT.exB (b := b5) (CallT.exB (b := b2) (CallT.exB (b := b3) (CallT.exB (b := bl) (runs_i hD (by omega) (by omega) hrl hseen (fun q2 out2 hlen2 hrl2 hseen2 => ?_))))))))
  refine RG.nil (WP.seq (WP.sr (RG.p (PV.load1 rfl Sc2 rfl (Rd.blk rfl)) (RG.nil (WP.region ?_)))))
  refine RG.ot rfl (OT.alloc rfl Zr2 fun b6 => ?_)
  refine RG.ot rfl (OT.storeW (vs := [vi _]) rfl Sz2 rfl rfl (Cl.c rfl) rfl rfl (OneC.c rfl) ?_)
  refine RG.nil (WP.region (RG.p (PV.load1 rfl Sc2 rfl (Rd.blk rfl)) (RG.p (PV.add rfl rfl rfl (by omega)) ?_)))
  refine RG.ot rfl (OT.storeW (vs := [vi _]) rfl Sz2 rfl rfl (Cl.c rfl) rfl rfl (OneC.c rfl) ?_)
  refine RG.nil ?_
  exact ⟨rfl, b6, l + 1, out2, q2, ⟨by omega, by omega, hrl2, hseen2.line⟩, ⟨rfl, trivial⟩, ⟨rfl, rfl, rfl, trivial⟩, Cv.p, by omega⟩
 ·have h2 := odf h2
  obtain rfl : l = 40 := by omega
  refine WP.exit (WP.sr (RG.p (PV.load1 rfl Sc50 rfl (Rd.blk rfl)) (RG.p (PV.asg (v := q) rfl rfl) (RG.nil ?_))))
  exact WP.ret ⟨_, _, rv rfl rfl, Cv.p, k q out ⟨by omega, hrl, hseen.all⟩⟩
theorem gd_not {D : List Bool} {j : Nat} (h : j < D.length) : gd (notB D) j = !gd D j := by rw [gd_eq (by rw [notB_len]; exact h), gd_eq h]; simp [notB]
theorem not_i {b : Nat} {D : List Bool} (hD : D.length = 6400) (k : ∀ b', R (.pointer (some ⟨b', 0, none⟩)) G (grd b' (notB D) :: grd b D :: L)) :
  CallT Tryz.prog 236 #[.pointer (some ⟨b, 0, none⟩)] G (grd b D :: L) R := by
 refine CallT.enter (args := _) Tryz.func236 rfl rfl (by kernel_rfl) rfl ?_
 refine WP.sr (RG.p (PV.asg rfl rfl) (RG.nil (WP.sr (RG.p (PV.build0 rfl Tryz.underlying125 ⟨80, by kernel_rfl⟩ (zeroB_spec (n := 6400) (by kernel_rfl))) ?_))))
 refine RG.ot rfl (OT.boxG rfl rfl fun b7 => ?_)
 refine RG.p (PV.mvP (.inr rfl) rfl) (RG.nil (WP.seq (WP.sr (RG.ml rfl (RG.nil (WP.block ?_))))))
 refine WP.loop2 [0, 3] (fun (i : Nat) (cs : List Bool) => i <= 80 ∧ cs.length = 6400 ∧ ∀ j, j < i * 80 -> gd cs j = !gd D j) (fun (i : Nat) (cs : List Bool) => [(8, vi i)]) (fun (i : Nat) (cs : List Bool) => grd b7 cs :: grd b D :: L) (fun (i : Nat) (cs : List Bool) => 80 - i) 0 (List.replicate 6400 false) ⟨by omega, by simp, fun j h => by omega⟩ ⟨rfl, trivial⟩ Cv.p ?_
 rintro i cs τ ⟨hi, hlc, hc⟩
 refine WP.sr (RG.p (PV.lss rfl rfl rfl) (RG.nil (WP.seq ?_)))
 refine WP.cond rfl (fun h4 => ?_) fun h4 => ?_
 ·have h4 := odt h4
  refine WP.skip (WP.seq (WP.block (WP.sr (RG.ml rfl (RG.mr rfl (RG.nil (WP.sr (RG.ml rfl (RG.nil (WP.block ?_))))))))))
  refine WP.loop2 [0, 3, 4, 8] (fun (m : Nat) (ds : List Bool) => m <= 80 ∧ ds.length = 6400 ∧ ∀ j, j < i * 80 + m -> gd ds j = !gd D j) (fun (m : Nat) (ds : List Bool) => [(11, vi m)]) (fun (m : Nat) (ds : List Bool) => grd b7 ds :: grd b D :: L) (fun (m : Nat) (ds : List Bool) => 80 - m) 0 cs ⟨by omega, hlc, fun j h => hc j (by omega)⟩ ⟨rfl, trivial⟩ Cv.p ?_
  rintro m ds τ1 ⟨hm, hld, hd⟩
  refine WP.sr (RG.p (PV.lss rfl rfl rfl) (RG.nil (WP.seq ?_)))
  refine WP.cond rfl (fun h5 => ?_) fun h5 => ?_
  ·have h5 := odt h5
   refine WP.skip (WP.seq (WP.block (WP.sr (RG.ml rfl (RG.mr rfl (RG.nil ?_))))))
   refine WP.regionHD [.b b7] (.q 0 (.q 1 (.q 2 (.q 3 (.q 4 (.q 5 (.q 6 (.q 7 (.q 8 (.q 9 (.q 10 (.q 11 (.q 12 (.q 13 (.l 14 Sch.nil))))))))))))))) (by kernel_rfl) (by kernel_rfl) (by kernel_rfl) rfl ?_
   refine RH.w rfl rfl (PV.mvP (.inl rfl) rfl) (RH.w rfl rfl (PV.mvI (.inl rfl) rfl) (RH.w rfl rfl (PV.mvI (.inl rfl) rfl) (RH.w rfl rfl (PV.mvP (.inl rfl) rfl) (RH.w rfl rfl (PV.mvI (.inl rfl) rfl) (RH.w rfl rfl (PV.mvI (.inl rfl) rfl) (RH.w rfl rfl (PV.nilc rfl rfl) (RH.w rfl rfl (PV.idxA rfl Ia125 rfl rfl rfl (by omega)) (RH.w rfl rfl (PV.idxA rfl Ia123 rfl rfl rfl (by omega)) (RH.w rfl rfl (PV.loadGr rfl Sc4 rfl rfl (by omega)) (RH.w rfl rfl (PV.not rfl rfl) (RH.w rfl rfl (PV.nilc rfl rfl) (RH.w rfl rfl (PV.idxA rfl Ia125 rfl rfl rfl (by omega)) (RH.w rfl rfl (PV.idxA rfl Ia123 rfl rfl rfl (by omega)) ?_)))))))))))))
   refine RH.ot rfl rfl (OT.storeGr rfl Sz4 rfl rfl rfl (by first | omega | (simp; omega)) (kp ?_))
   refine RH.nil (WP.region (RG.p (PV.add rfl rfl rfl (by omega)) (RG.ml rfl (RG.nil ?_))))
   refine ⟨rfl, m + 1, (ds.set (0 + i * 80 + m * 1) (!gd D (0 + i * 80 + m * 1))), ⟨by omega, by simpa using hld, fun j hj => ?_⟩, ⟨rfl, trivial⟩, ⟨rfl, rfl, rfl, rfl, trivial⟩, Cv.p, by omega⟩
   rw [show 0 + i * 80 + m * 1 = i * 80 + m by omega]
   by_cases c : j = i * 80 + m
   ·subst c; rw [gd_setE (by omega)]
   ·rw [gd_setM (fun e => c e.symm)]; exact hd j (by omega)
  ·have h5 := odf h5
   refine WP.exit (WP.region (RG.p (PV.add rfl rfl rfl (by omega)) (RG.ml rfl (RG.nil ?_))))
   exact ⟨rfl, i + 1, ds, ⟨by omega, hld, fun j hj => hd j (by omega)⟩, ⟨rfl, trivial⟩, ⟨rfl, rfl, trivial⟩, Cv.p, by omega⟩
 ·have h4 := odf h4
  have hz : cs = notB D := by
   apply List.ext_getElem?
   intro j
   by_cases hj : j < 6400
   ·rw [getG (by omega), hc j (by omega), <- gd_not (by omega), getG (by rw [notB_len]; omega)]
   ·rw [List.getElem?_eq_none (by omega), List.getElem?_eq_none (by rw [notB_len]; omega)]
  subst hz
  refine WP.exit (WP.sr (RG.p (PV.mvP (.inl rfl) rfl) (RG.p (PV.mvP (.inr rfl) rfl) (RG.nil ?_))))
  exact WP.ret ⟨_, _, rv rfl rfl, Cv.p, k b7⟩
def inner (ver : Bool) (r : Rect) : Bool := (ver && decide (-40 < r.y0)) && decide (r.y1 < 40) || (!ver && decide (-40 < r.x0)) && decide (r.x1 < 40)
theorem inner_line {ver : Bool} {l lo hi : Int} : inner ver (lineR ver l lo hi) = true ↔ -40 < lo ∧ hi < 40 := by
 have e : inner ver (lineR ver l lo hi) = (decide (-40 < lo) && decide (hi < 40)) := by
  cases ver
  ·rfl
  ·show ((decide (-40 < lo) && decide (hi < 40)) || false) = _
   rw [Bool.or_false]
 rw [e, Bool.and_eq_true, decide_eq_true_eq, decide_eq_true_eq]
structure GapsOf (D : List Bool) (ver : Bool) (out : List Rect) : Prop where
  len : out.length <= 6400
  run : ∀ r ∈ out, ∃ l k lo hi, isRun (notB D) ver l k lo hi ∧ (-40 < lo ∧ hi < 40) ∧ r = lineR ver l lo hi
  all : ∀ l k lo hi, isRun (notB D) ver l k lo hi -> -40 < lo -> hi < 40 -> lineR ver l lo hi ∈ out
theorem GapsOf.of {D : List Bool} {ver : Bool} {a : List Rect} (h : RunsOf (notB D) ver a) : GapsOf D ver (a.filter (inner ver)) := ⟨by
 have := h.len; have := List.length_filter_le (inner ver) a; omega, fun r hr => by
 obtain ⟨h1, h2⟩ := List.mem_filter.1 hr
 obtain ⟨l, k, lo, hi, g1, rfl⟩ := h.run r h1
 exact ⟨l, k, lo, hi, g1, inner_line.1 h2, rfl⟩, fun l k lo hi h1 h2 h3 => by
 obtain ⟨lo', hi', g1, g2⟩ := h.all l k (h1.all k h1.lk.1 h1.lk.2)
 obtain ⟨rfl, rfl⟩ := h1.uniq g1
 exact List.mem_filter.2 ⟨g2, inner_line.2 ⟨h2, h3⟩⟩⟩
theorem gapsOf_i {b : Nat} {D : List Bool} {ver : Bool} (hD : D.length = 6400) (k : ∀ v out, GapsOf D ver out -> R v G (osl 101 rectT v out :: grd b D :: L)) :
  CallT Tryz.prog 193 #[.pointer (some ⟨b, 0, none⟩), .bool ver] G (grd b D :: L) R := by
 refine CallT.enter (args := _) Tryz.func193 rfl rfl (by kernel_rfl) rfl ?_
 refine WP.sr (RG.p (PV.asg rfl rfl) (RG.nil (WP.sr ?_)))
 refine RG.ot rfl (OT.bslice (F := rectT) (els := []) rfl El50 rfl (by decide) rfl (by decide) trivial fun v8 => ?_)
 refine RG.p (PV.asg (v := v8) rfl rfl) (RG.nil (WP.seq (WP.sr (RG.p (PV.move rfl rfl) ?_))))
 refine RG.callF (vs := [_]) rfl rfl En236 rfl (CallT.exB (not_i hD (fun b10 => ?_)))
 refine RG.bl rfl ?_
 refine RG.callF (vs := [_, _]) rfl rfl En192 rfl (CallT.exB (b := b10) (runsOf_i (by rw [notB_len]; exact hD) (fun v12 outv12 houtv12 => have hlnv12 := houtv12.len; ?_)))
 refine RG.p (PV.len (v := v12) rfl Tryz.underlying50 rfl SlF.o) (RG.ml rfl (RG.nil (WP.block ?_)))
 refine WP.loop3 [1, 12, 13] (fun (i : Nat) (out : List Rect) (q : Value) => i <= outv12.length ∧ out = (outv12.take i).filter (inner ver)) (fun (i : Nat) (out : List Rect) (q : Value) => [(14, vi i), (5, q)]) (fun (i : Nat) (out : List Rect) (q : Value) => osl 101 rectT q out :: osl 101 rectT v12 outv12 :: grd b D :: L) (fun (i : Nat) (out : List Rect) (q : Value) => outv12.length - i) 0 [] v8 ⟨by omega, rfl⟩ ⟨rfl, rfl, trivial⟩ Cv.p ?_
 rintro i out q τ ⟨hi, hout⟩
 refine WP.sr (RG.p (PV.lss rfl rfl rfl) (RG.nil (WP.seq ?_)))
 have hol : out.length <= 6400 := by have := List.length_filter_le (inner ver) (outv12.take i); rw [<- hout, List.length_take] at this; omega
 refine WP.cond rfl (fun h4 => ?_) fun h4 => ?_
 ·have h4 := odt h4
  have h40 : i < outv12.length := by omega
  have hf := filt_succ (inner ver) h40
  refine WP.skip (WP.seq (WP.block (WP.sr (RG.p (PV.idxS (v := v12) rfl Is50 rfl SlF.o rfl rfl (by omega)) (RG.p (PV.loadE rfl Ag101 rfl rfl (El.o (getG (by omega)))) ?_)))))
  refine RG.ot rfl (OT.alloc rfl Zr101 fun b7 => ?_)
  refine RG.ot rfl (OT.storeW (vs := [vi _, vi _, vi _, vi _]) rfl Sz101 rfl rfl (Cl.c rfl) rfl rfl (OneC.c rfl) ?_)
  refine RG.nil (WP.sr (RG.bl rfl (RG.bl rfl ?_)))
  refine RG.g rfl (fun hp => (PV.field rfl Fo101_1 rfl)) ?_
  refine RG.g rfl (fun hp => (PV.load1 rfl Sc2 (gt' hp) (Rd.blk rfl))) ?_
  refine RG.g rfl (fun hp => (PV.gtr rfl (gt' hp) rfl)) ?_
  refine RG.p (PV.pickA rfl rfl (fun hq => gt' (geqT hq)) rfl) (RG.bl rfl ?_)
  refine RG.g rfl (fun hp => (PV.field rfl Fo101_3 rfl)) ?_
  refine RG.g rfl (fun hp => (PV.load1 rfl Sc2 (gt' hp) (Rd.blk rfl))) ?_
  refine RG.g rfl (fun hp => (PV.lss rfl (gt' hp) rfl)) ?_
  refine RG.p (PV.pickA rfl rfl (fun hq => gt' (geqT hq)) rfl) (RG.bl rfl ?_)
  refine RG.g rfl (fun hp => (PV.mvB (.inl rfl) rfl)) ?_
  refine RG.g rfl (fun hp => (PV.not rfl (gt' hp))) ?_
  refine RG.g rfl (fun hp => (PV.mvB (.inl rfl) (gt' hp))) ?_
  refine RG.gs2 rfl rfl rfl (fun hp => (PV.field rfl Fo101_0 rfl)) (RG.gs2 rfl rfl rfl (fun hp => (PV.load1 rfl Sc2 (gt' hp) (Rd.blk rfl))) (RG.gs2 rfl rfl rfl (fun hp => (PV.gtr rfl (gt' hp) rfl)) ?_))
  refine RG.g rfl (fun hp => (PV.pickA rfl (gt' hp) (fun hq => gt' (gandT hp hq)) rfl)) ?_
  refine RG.g rfl (fun hp => (PV.mvB (.inl rfl) (gt' hp))) ?_
  refine RG.gs2 rfl rfl rfl (fun hp => (PV.field rfl Fo101_2 rfl)) (RG.gs2 rfl rfl rfl (fun hp => (PV.load1 rfl Sc2 (gt' hp) (Rd.blk rfl))) (RG.gs2 rfl rfl rfl (fun hp => (PV.lss rfl (gt' hp) rfl)) ?_))
  refine RG.g rfl (fun hp => (PV.pickA rfl (gt' hp) (fun hq => gt' (gandT hp hq)) rfl)) ?_
  refine RG.p (PV.pickO rfl rfl rfl (fun hq => gt' (geqF hq))) (RG.nil ?_)
  refine WP.cond rfl (fun h5 => ?_) fun h5 => ?_
  ·have h6 : inner ver (gd outv12 i) = true := h5
   rw [if_pos h6, <- hout] at hf
   refine WP.region (RG.p (PV.move (v := q) rfl rfl) (RG.p (PV.loadW rfl Ag101 rfl rfl) ?_))
   refine RG.ot rfl (OT.bslice (F := rectT) (els := [_]) rfl El50 rfl (by decide) rfl (by decide) ⟨rfl, (Cl.c rfl), trivial⟩ fun v45 => ?_)
   refine RG.ot rfl (OT.append (v := q) (u := v45) (F := rectT) rfl El50 rfl (by decide) rfl rfl Rs.o (OneL.c (fun _ => rfl)) rfl (by first | omega | (simp <;> omega)) fun v46 => ?_)
   refine RG.p (PV.asg (v := v46) rfl rfl) (RG.nil (WP.region (RG.p (PV.add rfl rfl rfl (by omega)) (RG.ml rfl (RG.nil ?_)))))
   exact ⟨rfl, i + 1, _, v46, ⟨by omega, hf.symm⟩, ⟨rfl, rfl, trivial⟩, ⟨rfl, rfl, rfl, trivial⟩, Cv.p, by omega⟩
  ·have h6 : ¬ inner ver (gd outv12 i) = true := by rw [show inner ver (gd outv12 i) = false from h5]; decide
   rw [if_neg h6, <- hout, List.append_nil] at hf
   refine WP.skip (WP.region (RG.p (PV.add rfl rfl rfl (by omega)) (RG.ml rfl (RG.nil ?_))))
   exact ⟨rfl, i + 1, _, q, ⟨by omega, hf.symm⟩, ⟨rfl, rfl, trivial⟩, ⟨rfl, rfl, rfl, trivial⟩, Cv.p, by omega⟩
 ·have h4 := odf h4
  rw [List.take_of_length_le (by omega)] at hout
  rw [hout]
  refine WP.exit (WP.sr (RG.p (PV.move (v := q) rfl rfl) (RG.p (PV.asg (v := q) rfl rfl) (RG.nil ?_))))
  exact WP.ret ⟨_, _, rv rfl rfl, Cv.p, k q _ (GapsOf.of houtv12)⟩
theorem allRuns_i {v : Value} {xs : List Rect} (h1 : Rs G L rectT v xs) (k : ∀ v' out, RunsA (bits xs) out -> R v' G (osl 101 rectT v' out :: L)) : CallT Tryz.prog 136 #[v] G L R := by
 refine CallT.enter (args := _) Tryz.func136 rfl rfl (by kernel_rfl) rfl ?_
 refine WP.sr (RG.p (PV.asg rfl rfl) (RG.nil (WP.sr (RG.p (PV.move (v := v) rfl rfl) ?_))))
 refine RG.callF (vs := [v]) rfl rfl En99 rfl (cellsOf_s (Rs.up h1) (fun b5 => ?_))
 refine RG.p (PV.asg rfl rfl) (RG.nil (WP.sr (RG.p (PV.move rfl rfl) ?_)))
 refine RG.callF (vs := [_, _]) rfl rfl En192 rfl (CallT.exB (b := b5) (runsOf_i (bits_length _) (fun v7 outv7 houtv7 => have hlnv7 := houtv7.len; ?_)))
 refine RG.p (PV.move rfl rfl) ?_
 refine RG.callF (vs := [_, _]) rfl rfl En192 rfl (CallT.exB (b := b5) (runsOf_i (bits_length _) (fun v9 outv9 houtv9 => have hlnv9 := houtv9.len; ?_)))
 refine RG.ot rfl (OT.append (v := v7) (u := v9) (F := rectT) rfl El50 rfl (by decide) rfl rfl Rs.o (OneL.c (fun _ => rfl)) rfl (by first | omega | (simp <;> omega)) fun v10 => ?_)
 refine RG.p (PV.asg (v := v10) rfl rfl) (RG.nil ?_)
 exact WP.ret ⟨_, _, rv rfl rfl, Cv.p, k v10 _ (RunsA.of houtv7 houtv9)⟩
theorem orZ_self {A : List Bool} : orZ A A = A := by
 apply List.ext_getElem
 ·rw [orZ_len]
 ·intro j h1 h2
  simp only [orZ, List.getElem_map, List.getElem_range, Bool.or_self]
  rw [gd_eq h2]
theorem cv_not {S : List Bool} {ver : Bool} {l k : Int} (hS : S.length = 6400) (hl : -40 <= l ∧ l < 40) (hk : -40 <= k ∧ k < 40) : cv (notB S) ver l k = !cv S ver l k := by
 have e : ∀ x y : Int, (-40 <= x ∧ x < 40) -> (-40 <= y ∧ y < 40) -> celB (notB S) x y = !celB S x y := fun x y hx hy => by
  rw [celB, celB, gd_not (by omega), decide_eq_true hx, decide_eq_true hy]; rfl
 cases ver
 ·exact e _ _ hk hl
 ·exact e _ _ hl hk
theorem gapE_line {A B : List Bool} {ver : Bool} {l lo hi : Int} : gapE A B ver (lineR ver l lo hi) = ((cv A ver l (lo - 1) && cv B ver l hi) || (cv B ver l (lo - 1) && cv A ver l hi)) := by cases ver <;> rfl
theorem gapE_inner {A B : List Bool} {ver : Bool} {l lo hi : Int} (h : gapE A B ver (lineR ver l lo hi) = true) : -40 < lo ∧ hi < 40 := by
 rw [gapE_line] at h
 simp only [Bool.or_eq_true, Bool.and_eq_true] at h
 rcases h with ⟨h1, h2⟩ | ⟨h1, h2⟩ <;> (have := cv_rng h1; have := cv_rng h2; omega)
theorem gap_ends {A : List Bool} {ver : Bool} {l k lo hi : Int} (hA : A.length = 6400) (h : isRun (notB A) ver l k lo hi) (h1 : -40 < lo ∧ hi < 40) : cv A ver l (lo - 1) = true ∧ cv A ver l hi = true := by
 have g1 := h.low; have g2 := h.high; have g3 := h.lk; have g4 := h.rng
 rw [cv_not hA g4.2 (by omega)] at g1 g2
 constructor
 ·simpa using g1
 ·simpa using g2
theorem gapE_self {A : List Bool} {ver : Bool} {l k lo hi : Int} (hA : A.length = 6400) (h : isRun (notB A) ver l k lo hi) : gapE A A ver (lineR ver l lo hi) = true ↔ -40 < lo ∧ hi < 40 := by
 refine ⟨gapE_inner, fun h1 => ?_⟩
 rw [gapE_line, (gap_ends hA h h1).1, (gap_ends hA h h1).2]; rfl
theorem GapsA.self {A : List Bool} {a b : List Rect} (hA : A.length = 6400) (ha : GapsOf A false a) (hb : GapsOf A true b) : GapsA A A (a ++ b) := ⟨by
 have := ha.len; have := hb.len; rw [List.length_append]; omega, fun r hr => by
 rw [orZ_self]
 rcases List.mem_append.1 hr with h | h
 ·obtain ⟨l, k, lo, hi, g1, g2, rfl⟩ := ha.run r h; exact ⟨false, l, k, lo, hi, g1, (gapE_self hA g1).2 g2, rfl⟩
 ·obtain ⟨l, k, lo, hi, g1, g2, rfl⟩ := hb.run r h; exact ⟨true, l, k, lo, hi, g1, (gapE_self hA g1).2 g2, rfl⟩, fun ver l k lo hi h1 h2 => by
 rw [orZ_self] at h1
 have g := (gapE_self hA h1).1 h2
 cases ver with
 | false => exact List.mem_append_left _ (ha.all l k lo hi h1 g.1 g.2)
 | true => exact List.mem_append_right _ (hb.all l k lo hi h1 g.1 g.2)⟩
theorem allGaps_i {v : Value} {xs : List Rect} (h1 : Rs G L rectT v xs) (k : ∀ v' out, GapsA (bits xs) (bits xs) out -> R v' G (osl 101 rectT v' out :: L)) : CallT Tryz.prog 137 #[v] G L R := by
 refine CallT.enter (args := _) Tryz.func137 rfl rfl (by kernel_rfl) rfl ?_
 refine WP.sr (RG.p (PV.asg rfl rfl) (RG.nil (WP.sr (RG.p (PV.move (v := v) rfl rfl) ?_))))
 refine RG.callF (vs := [v]) rfl rfl En99 rfl (cellsOf_s (Rs.up h1) (fun b5 => ?_))
 refine RG.p (PV.asg rfl rfl) (RG.nil (WP.sr (RG.p (PV.move rfl rfl) ?_)))
 refine RG.callF (vs := [_, _]) rfl rfl En193 rfl (CallT.exB (b := b5) (gapsOf_i (bits_length _) (fun v7 outv7 houtv7 => have hlnv7 := houtv7.len; ?_)))
 refine RG.p (PV.move rfl rfl) ?_
 refine RG.callF (vs := [_, _]) rfl rfl En193 rfl (CallT.exB (b := b5) (gapsOf_i (bits_length _) (fun v9 outv9 houtv9 => have hlnv9 := houtv9.len; ?_)))
 refine RG.ot rfl (OT.append (v := v7) (u := v9) (F := rectT) rfl El50 rfl (by decide) rfl rfl Rs.o (OneL.c (fun _ => rfl)) rfl (by first | omega | (simp <;> omega)) fun v10 => ?_)
 refine RG.p (PV.asg (v := v10) rfl rfl) (RG.nil ?_)
 exact WP.ret ⟨_, _, rv rfl rfl, Cv.p, k v10 _ (GapsA.self (bits_length _) houtv7 houtv9)⟩
theorem runLen_i {r : Rect} (hv : validRect r = true) (k : R (vi (lenR r)) G L) : CallT Tryz.prog 191 #[vrect r] G L R := by
 have e : lenR r = areaR r := rfl
 rw [e] at k
 refine CallT.enter (args := _) Tryz.func191 rfl rfl (by kernel_rfl) rfl ?_
 refine WP.sr ?_
 refine RG.ot rfl (OT.box (cs := rectT.enc r) rfl rfl rfl fun b1 => ?_)
 refine RG.mr rfl (RG.nil (WP.sr (RG.p (PV.loadW rfl Ag101 rfl rfl) ?_)))
 refine RG.callF (vs := [_]) rfl rfl En145 rfl (area_s hv ?_)
 refine RG.mr rfl (RG.nil ?_)
 exact WP.ret ⟨_, _, rv rfl rfl, Cv.p, k⟩
theorem shorter_i {v : Value} {list : List Rect} {w : Int} (h1 : Rs G L rectT v list) (hv : ∀ r ∈ list, validRect r = true) (hl : list.length <= 1000000) (k : ∀ v' E, E.length = 6400 -> (∀ y x, y < 80 -> x < 80 -> gb E y x = markC list w y x) -> R v' G (osl 101 rectT v' (canon E) :: L)) : CallT Tryz.prog 135 #[v, vi w] G L R := by
 refine CallT.enter (args := _) Tryz.func135 rfl rfl (by kernel_rfl) rfl ?_
 refine WP.sr (RG.p (PV.asg rfl rfl) (RG.nil (WP.sr (RG.p (PV.build0 rfl Tryz.underlying125 ⟨80, by kernel_rfl⟩ (zeroB_spec (n := 6400) (by kernel_rfl))) ?_))))
 refine RG.ot rfl (OT.boxG rfl rfl fun b9 => ?_)
 refine RG.p (PV.mvP (.inr rfl) rfl) (RG.nil (WP.seq (WP.sr (RG.p (PV.move (v := v) rfl rfl) (RG.p (PV.len (v := v) rfl Tryz.underlying50 rfl (SlF.r h1)) (RG.ml rfl (RG.nil (WP.block ?_))))))))
 refine WP.loop2 [1, 5, 10, 11] (fun (i : Nat) (E : List Bool) => i <= list.length ∧ E.length = 6400 ∧ ∀ y x, y < 80 -> x < 80 -> gb E y x = markC (list.take i) w y x) (fun (i : Nat) (E : List Bool) => [(12, vi i)]) (fun (i : Nat) (E : List Bool) => grd b9 E :: L) (fun (i : Nat) (E : List Bool) => list.length - i) 0 (List.replicate 6400 false) ⟨by omega, by simp, fun y x _ _ => gb_rep0 y x⟩ ⟨rfl, trivial⟩ Cv.p ?_
 rintro i E τ ⟨hi, hE, hg⟩
 refine WP.sr (RG.p (PV.lss rfl rfl rfl) (RG.nil (WP.seq ?_)))
 refine WP.cond rfl (fun h2 => ?_) fun h2 => ?_
 ·have h2 := odt h2
  have hil : i < list.length := by omega
  have htk : list.take (i + 1) = list.take i ++ [gd list i] := by rw [List.take_add_one, getG hil]; rfl
  refine WP.skip (WP.seq (WP.block (WP.sr (RG.p (PV.idxS (v := v) rfl Is50 rfl (SlF.r h1) rfl rfl (by omega)) (RG.p (PV.loadE rfl Ag101 rfl rfl (El.r h1 (getG (by omega)))) ?_)))))
  refine RG.ot rfl (OT.alloc rfl Zr101 fun b7 => ?_)
  refine RG.ot rfl (OT.storeW (vs := [vi _, vi _, vi _, vi _]) rfl Sz101 rfl rfl (Cl.c rfl) rfl rfl (OneC.c rfl) ?_)
  refine RG.nil (WP.sr (RG.p (PV.loadW rfl Ag101 rfl rfl) ?_))
  refine RG.callF (vs := [_]) rfl rfl En191 rfl (runLen_i (hv _ (gd_mem (by omega))) ?_)
  refine RG.ml rfl (RG.p (PV.lss rfl rfl rfl) (RG.nil ?_))
  refine WP.cond rfl (fun h3 => ?_) fun h3 => ?_
  ·have h3 := odt h3
   have h4 : decide (lenR (gd list i) < w) = true := decide_eq_true h3
   refine WP.region (RG.p (PV.mvP (.inl rfl) rfl) (RG.p (PV.loadW rfl Ag101 rfl rfl) ?_))
   refine RG.callF (vs := [(.pointer (some ⟨b9, 0, none⟩)), _]) rfl rfl En68 rfl (CallT.exB (put_s (by assumption) (fun bs' hb' hg' => ?_)))
   refine RG.nil (WP.region (RG.p (PV.add rfl rfl rfl (by omega)) (RG.ml rfl (RG.nil ?_))))
   exact ⟨rfl, i + 1, bs', ⟨by omega, hb', fun y x hy hx => by rw [hg' y x hy hx, hg y x hy hx, markC, markC, htk, List.any_append]; simp [h4]⟩, ⟨rfl, trivial⟩, ⟨rfl, rfl, rfl, rfl, trivial⟩, Cv.p, by omega⟩
  ·have h3 := odf h3
   have h4 : decide (lenR (gd list i) < w) = false := decide_eq_false h3
   refine WP.skip (WP.region (RG.p (PV.add rfl rfl rfl (by omega)) (RG.ml rfl (RG.nil ?_))))
   exact ⟨rfl, i + 1, E, ⟨by omega, hE, fun y x hy hx => by rw [hg y x hy hx, markC, markC, htk, List.any_append]; simp [h4]⟩, ⟨rfl, trivial⟩, ⟨rfl, rfl, rfl, rfl, trivial⟩, Cv.p, by omega⟩
 ·have h2 := odf h2
  rw [List.take_of_length_le (by omega)] at hg
  refine WP.exit (WP.sr (RG.p (PV.mvP (.inl rfl) rfl) ?_))
  refine RG.callF (vs := [(.pointer (some ⟨b9, 0, none⟩))]) rfl rfl En69 rfl (CallT.exB (region_s hE (fun v25 => ?_)))
  refine RG.p (PV.asg (v := v25) rfl rfl) (RG.nil ?_)
  exact WP.ret ⟨_, _, rv rfl rfl, Cv.p, k v25 E hE hg⟩
theorem okDist_within (w : Int) : within w 1 8 = okDist w := by rw [within, okDist]
theorem checkable_i {v : Value} {xs : List Rect} {w : Int} (h1 : Rs G L rectT v xs) (k : R (.bool (isReg xs && okDist w)) G L) : CallT Tryz.prog 134 #[v, vi w] G L R := by
 rw [<- okDist_within] at k
 refine CallT.enter (args := _) Tryz.func134 rfl rfl (by kernel_rfl) rfl ?_
 refine WP.sr (RG.br rfl (RG.nil (WP.sr (RG.p (PV.move (v := v) rfl rfl) ?_))))
 refine RG.callF (vs := [v]) rfl rfl En72 rfl (isRegion_s (Rs.up h1) ?_)
 refine RG.bl rfl ?_
 refine RG.g rfl (fun hp => (PV.mvI (.inl rfl) rfl)) ?_
 refine RG.gsC rfl rfl rfl rfl En56 (fun hp => ⟨_, (acons (gt' hp) (acons rfl (acons rfl anil))), within_s ⟨rfl, rfl, rfl⟩⟩) ?_
 refine RG.p (PV.pickA rfl rfl (fun hq => gt' (geqT hq)) rfl) (RG.br rfl (RG.nil ?_))
 exact WP.ret ⟨_, _, rv rfl rfl, Cv.p, k⟩
theorem runsA_valid {S : List Bool} {out : List Rect} (h : RunsA S out) : ∀ r ∈ out, validRect r = true := fun r hr => by
 obtain ⟨ver, l, k, lo, hi, g1, rfl⟩ := h.run r hr; exact lineR_valid g1
theorem gapsA_valid {A B : List Bool} {out : List Rect} (h : GapsA A B out) : ∀ r ∈ out, validRect r = true := fun r hr => by
 obtain ⟨ver, l, k, lo, hi, g1, g2, rfl⟩ := h.run r hr; exact lineR_valid g1
theorem markWidth_i {v : Value} {xs : List Rect} {w : Int} (h1 : Rs G L rectT v xs) (k : ∀ v', R v' G (osl 101 rectT v' (widthL xs w) :: L)) : CallT Tryz.prog 87 #[v, vi w] G L R := by
 refine CallT.enter (args := _) Tryz.func87 rfl rfl (by kernel_rfl) rfl ?_
 refine WP.sr (RG.p (PV.asg rfl rfl) (RG.nil (WP.seq (WP.sr (RG.p (PV.move (v := v) rfl rfl) (RG.ml rfl ?_))))))
 refine RG.callF (vs := [v, _]) rfl rfl En134 rfl (checkable_i (Rs.up h1) ?_)
 refine RG.p (PV.not rfl rfl) (RG.nil ?_)
 refine WP.cond rfl (fun h2 => ?_) fun h2 => ?_
 ·have e : widthL xs w = [] := by rw [widthL, if_neg]; intro h3; rw [h3] at h2; simp at h2
  rw [e] at k
  refine WP.sr (RG.p (PV.asg rfl rfl) (RG.nil ?_))
  exact WP.ret ⟨_, _, rv rfl rfl, Cv.nilS, k _⟩
 ·have h3 : (isReg xs && okDist w) = true := by simpa using h2
  refine WP.skip (WP.sr (RG.p (PV.move (v := v) rfl rfl) ?_))
  refine RG.callF (vs := [v]) rfl rfl En136 rfl (allRuns_i (Rs.up h1) (fun v10 outv10 houtv10 => have hlnv10 := houtv10.len; ?_))
  refine RG.ml rfl ?_
  refine RG.callF (vs := [v10, _]) rfl rfl En135 rfl (shorter_i Rs.o (runsA_valid houtv10) (by omega) (fun v12 Ev12 hEv12 hgv12 => ?_))
  refine RG.p (PV.asg (v := v12) rfl rfl) (RG.nil ?_)
  refine WP.ret ?_
  have e : widthL xs w = canon Ev12 := by rw [widthL, if_pos h3, celL_eq (P := Thin (bits xs) w) hEv12 (fun y x hy hx => by rw [hgv12 y x hy hx, markC_iff houtv10])]
  rw [e] at k
  exact ⟨_, _, rv rfl rfl, Cv.p, k v12⟩
theorem markSpacing_i {v : Value} {xs : List Rect} {w : Int} (h1 : Rs G L rectT v xs) (k : ∀ v', R v' G (osl 101 rectT v' (spaceL xs w) :: L)) : CallT Tryz.prog 88 #[v, vi w] G L R := by
 refine CallT.enter (args := _) Tryz.func88 rfl rfl (by kernel_rfl) rfl ?_
 refine WP.sr (RG.p (PV.asg rfl rfl) (RG.nil (WP.seq (WP.sr (RG.p (PV.move (v := v) rfl rfl) (RG.ml rfl ?_))))))
 refine RG.callF (vs := [v, _]) rfl rfl En134 rfl (checkable_i (Rs.up h1) ?_)
 refine RG.p (PV.not rfl rfl) (RG.nil ?_)
 refine WP.cond rfl (fun h2 => ?_) fun h2 => ?_
 ·have e : spaceL xs w = [] := by rw [spaceL, if_neg]; intro h3; rw [h3] at h2; simp at h2
  rw [e] at k
  refine WP.sr (RG.p (PV.asg rfl rfl) (RG.nil ?_))
  exact WP.ret ⟨_, _, rv rfl rfl, Cv.nilS, k _⟩
 ·have h3 : (isReg xs && okDist w) = true := by simpa using h2
  refine WP.skip (WP.sr (RG.p (PV.move (v := v) rfl rfl) ?_))
  refine RG.callF (vs := [v]) rfl rfl En137 rfl (allGaps_i (Rs.up h1) (fun v10 outv10 houtv10 => have hlnv10 := houtv10.len; ?_))
  refine RG.ml rfl ?_
  refine RG.callF (vs := [v10, _]) rfl rfl En135 rfl (shorter_i Rs.o (gapsA_valid houtv10) (by omega) (fun v12 Ev12 hEv12 hgv12 => ?_))
  refine RG.p (PV.asg (v := v12) rfl rfl) (RG.nil ?_)
  refine WP.ret ?_
  have e : spaceL xs w = canon Ev12 := by rw [spaceL, if_pos h3, celL_eq (P := Nigh (bits xs) (bits xs) w) hEv12 (fun y x hy hx => by rw [hgv12 y x hy hx, near_iff houtv10])]
  rw [e] at k
  exact ⟨_, _, rv rfl rfl, Cv.p, k v12⟩
end Go.Proofs.YtogocmlhnjiaaaaGreat
