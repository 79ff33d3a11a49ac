/-
  Contracts of functions and plain facts that the last text of this folder uses, part 2.
-/
import Derived.Test.YthhjapiggekjbaaGreatVA1
import Derived.Lib.BufferMore
namespace Go.Proofs.YthhjapiggekjbaaGreat
set_option linter.unusedVariables false
set_option linter.unusedSimpArgs false
open Go
set_option linter.unusedVariables false
theorem Cv.cons {c : Ch} {L L' : List Ch} (h : Cv L L') : Cv (c :: L) (c :: L') := fun hp ⟨h1, h2, d, l1, l2, cc, s⟩ => ⟨h1, h2, d, l1, l2, cc, h h2 s⟩
/-- a chunk's saying weakened -/
theorem Cv.imp {c c' : Ch} {L : List Ch} (h : ∀ hp, c hp → c' hp) : Cv (c :: L) (c' :: L) := fun hp ⟨h1, h2, d, l1, l2, cc, s⟩ => ⟨h1, h2, d, l1, l2, h h1 cc, s⟩
theorem Cv.ex {c : Ch} {L L' : List Ch} (h : Ex c L L') : Cv L (c :: L') := fun _ s => h.sep s
def hu (a b : Hp) : Hp := fun x => if (a x).isSome then a x else b x
theorem hu_l (a b : Hp) : Hp.le a (hu a b) := fun x o h => by simp [hu, h]
theorem hu_r {a b : Hp} (d : Hp.dj a b) : Hp.le b (hu a b) := fun x o h => by
 rcases d x with e | e
 · simp [hu, e, h]
 · rw [e] at h; cases h
theorem hu_le {a b c : Hp} (h : Hp.le a c) (k : Hp.le b c) : Hp.le (hu a b) c := fun x o e => by
 unfold hu at e; split at e
 · exact h x o e
 · exact k x o e
theorem hu_dj {a b c : Hp} (h : Hp.dj a c) (k : Hp.dj b c) : Hp.dj (hu a b) c := fun x => by
 rcases h x with e | e
 · rcases k x with e' | e'
   · left; simp [hu, e, e']
   · exact .inr e'
 · exact .inr e
theorem Hp.dj_symm {a b : Hp} (h : Hp.dj a b) : Hp.dj b a := fun x => (h x).symm
theorem Hp.dj_le {a b a' : Hp} (h : Hp.dj a b) (l : Hp.le a' a) : Hp.dj a' b := fun x => by
 rcases h x with e | e
 · left
   cases h' : a' x with
   | none => rfl
   | some o => rw [l x o h'] at e; cases e
 · exact .inr e
theorem sep_app : ∀ {A B : List Ch} {hp : Hp}, Sep (A ++ B) hp → ∃ a b, Hp.dj a b ∧ Hp.le a hp ∧ Hp.le b hp ∧ Sep A a ∧ Sep B b
 | [], B, hp, h => ⟨fun _ => none, hp, fun _ => .inl rfl, (fun _ _ e => by cases e), Hp.le_refl _, trivial, h⟩
 | c :: A, B, hp, ⟨h1, h2, d, l1, l2, cc, s⟩ => by
   obtain ⟨a, b, d', m1, m2, sa, sb⟩ := sep_app s
   exact ⟨hu h1 a, b, hu_dj (Hp.dj_symm (Hp.dj_le (Hp.dj_symm d) m2)) d', hu_le l1 (Hp.le_trans m1 l2), Hp.le_trans m2 l2, ⟨h1, a, Hp.dj_symm (Hp.dj_le (Hp.dj_symm d) m1), hu_l _ _, hu_r (Hp.dj_symm (Hp.dj_le (Hp.dj_symm d) m1)), cc, sa⟩, sb⟩
theorem app_sep : ∀ {A B : List Ch} {hp a b : Hp}, Hp.dj a b → Hp.le a hp → Hp.le b hp → Sep A a → Sep B b → Sep (A ++ B) hp
 | [], B, hp, a, b, _, _, l, _, s => s.up l
 | c :: A, B, hp, a, b, d, la, lb, ⟨h1, h2, d', m1, m2, cc, sa⟩, sb =>
   ⟨h1, hu h2 b, Hp.dj_symm (hu_dj (Hp.dj_symm d') (Hp.dj_symm (Hp.dj_le d m1))), Hp.le_trans m1 la, hu_le (Hp.le_trans m2 la) lb, cc,
     app_sep (Hp.dj_le d m2) (hu_l _ _) (hu_r (Hp.dj_le d m2)) sa sb⟩
theorem Cv.swap {A B L : List Ch} : Cv (A ++ B ++ L) (B ++ A ++ L) := fun hp s => by
 obtain ⟨ab, c, d, l1, l2, sab, sc⟩ := sep_app s
 obtain ⟨a, b, d', m1, m2, sa, sb⟩ := sep_app sab
 exact app_sep d l1 l2 (app_sep (Hp.dj_symm d') m2 m1 sb sa) sc
def bag (B : List Ch) : Ch := Sep B
def emp : Ch := fun _ => True
theorem Cv.bagNil {L : List Ch} : Cv L (bag [] :: L) := fun hp s => ⟨fun _ => none, hp, fun _ => .inl rfl, (fun _ _ e => by cases e), Hp.le_refl _, trivial, s⟩
theorem Cv.toBag {B L : List Ch} : Cv (B ++ L) (bag B :: L) := fun hp s => sep_app s
theorem Cv.ofBag {B L : List Ch} : Cv (bag B :: L) (B ++ L) := fun hp ⟨a, b, d, l1, l2, sa, sb⟩ => app_sep d l1 l2 sa sb
theorem Cv.bagAdd {c : Ch} {B L : List Ch} : Cv (c :: bag B :: L) (bag (B ++ [c]) :: L) :=
 (Cv.cons Cv.ofBag).trans ((Cv.swap (A := [c]) (B := B)).trans Cv.toBag)
theorem set_split {B : List Ch} {i : Nat} {c : Ch} (h : i < B.length) : B.set i c = B.take i ++ c :: B.drop (i + 1) := List.set_eq_take_append_cons_drop (a := c) ▸ by simp [h]
theorem get_split {B : List Ch} {i : Nat} {c : Ch} (h : B[i]? = some c) : B = B.take i ++ c :: B.drop (i + 1) := by
 obtain ⟨hi, rfl⟩ := List.getElem?_eq_some_iff.1 h
 rw [← List.drop_eq_getElem_cons hi, List.take_append_drop]
theorem Cv.bagTake {B L : List Ch} {c : Ch} (i : Nat) (h : B[i]? = some c) : Cv (bag B :: L) (c :: bag (B.set i emp) :: L) := by
 have hi := (List.getElem?_eq_some_iff.1 h).1
 intro hp ⟨a, b, d, l1, l2, sa, sb⟩
 have e := get_split h
 rw [set_split hi]
 have sa : Sep B a := sa
 rw [e] at sa
 obtain ⟨x, y, d', m1, m2, sx, sy⟩ := sep_app sa
 obtain ⟨h1, h2, d2, n1, n2, cc, s2⟩ := sy
 refine ⟨h1, hu (hu x h2) b, ?_, Hp.le_trans n1 (Hp.le_trans m2 l1), hu_le (hu_le (Hp.le_trans m1 l1) (Hp.le_trans n2 (Hp.le_trans m2 l1))) l2, cc, hu x h2, b, ?_, hu_l _ _, hu_r ?_, ?_, sb⟩
 · exact Hp.dj_symm (hu_dj (hu_dj (Hp.dj_symm (Hp.dj_le (Hp.dj_symm d') n1)) (Hp.dj_symm d2)) (Hp.dj_symm (Hp.dj_le d (Hp.le_trans n1 m2))))
 · exact hu_dj (Hp.dj_le d m1) (Hp.dj_le d (Hp.le_trans n2 m2))
 · exact hu_dj (Hp.dj_le d m1) (Hp.dj_le d (Hp.le_trans n2 m2))
 · have dx : Hp.dj x h2 := Hp.dj_symm (Hp.dj_le (Hp.dj_symm d') n2)
   refine app_sep dx (hu_l _ _) (hu_r dx) sx ?_
   exact ⟨fun _ => none, h2, fun _ => .inl rfl, (fun _ _ e => by cases e), Hp.le_refl _, trivial, s2⟩
theorem Cv.bagPut {B L : List Ch} {c : Ch} (i : Nat) (hi : i < B.length) : Cv (c :: bag B :: L) (bag (B.set i c) :: L) := by
 intro hp ⟨h1, h2, d, l1, l2, cc, a, b, d', m1, m2, sa, sb⟩
 have e := get_split (List.getElem?_eq_getElem hi)
 have sa : Sep B a := sa
 rw [e] at sa
 obtain ⟨x, y, d2, n1, n2, sx, y1, y2, d3, o1, o2, _, sy⟩ := sep_app sa
 refine ⟨hu h1 (hu x y2), b, ?_, hu_le l1 (hu_le (Hp.le_trans n1 (Hp.le_trans m1 l2)) (Hp.le_trans o2 (Hp.le_trans n2 (Hp.le_trans m1 l2)))), Hp.le_trans m2 l2, ?_, sb⟩
 · exact hu_dj (Hp.dj_symm (Hp.dj_le (Hp.dj_symm d) m2)) (hu_dj (Hp.dj_le d' n1) (Hp.dj_le d' (Hp.le_trans o2 n2)))
 · show Sep _ _
   rw [set_split hi]
   have dxy : Hp.dj x y2 := Hp.dj_symm (Hp.dj_le (Hp.dj_symm d2) o2)
   have d1x : Hp.dj h1 x := Hp.dj_symm (Hp.dj_le (Hp.dj_symm d) (Hp.le_trans n1 m1))
   have d1y : Hp.dj h1 y2 := Hp.dj_symm (Hp.dj_le (Hp.dj_symm d) (Hp.le_trans o2 (Hp.le_trans n2 m1)))
   refine app_sep (a := x) (b := hu h1 y2) ?_ ?_ ?_ sx ⟨h1, y2, d1y, hu_l _ _, hu_r d1y, cc, sy⟩
   · exact Hp.dj_symm (hu_dj d1x (Hp.dj_symm dxy))
   · exact Hp.le_trans (hu_l x y2) (hu_r (Hp.dj_symm (hu_dj (Hp.dj_symm d1x) (Hp.dj_symm d1y))))
   · exact hu_le (hu_l _ _) (Hp.le_trans (hu_r dxy) (hu_r (Hp.dj_symm (hu_dj (Hp.dj_symm d1x) (Hp.dj_symm d1y)))))
section
variable {P : Program} {n : Nat} {Q : Post} {σ : Nat → Value} {G : Gh} {L L' : List Ch} {ops : Array Oper} {rest : List Oper}
theorem WP.cv {c : Code} (h : Cv L L') (k : WP P n c Q σ G L') : WP P n c Q σ G L := WP.of fun hk _ _ ha hs => k.run hk ha (hs.cv h)
theorem RG.cv (h : Cv L L') (k : RG P n ops rest Q σ G L') : RG P n ops rest Q σ G L := RG.of fun hk _ _ ha hs => k.run hk ha (hs.cv h)
theorem CallT.cv {f : FuncId} {args : Array Value} {R : Value → Gh → List Ch → Prop} (h : Cv L L') (k : CallT P f args G L' R) : CallT P f args G L R := CallT.of fun _ hs => k.run (hs.cv h)
theorem CallT.exC {f : FuncId} {args : Array Value} {R : Value → Gh → List Ch → Prop} (c : Ch) [hX : ExC c L L'] (k : CallT P f args G (c :: L') R) : CallT P f args G L R := CallT.cv (Cv.ex hX.ex) k
theorem WP.exC {c0 : Code} (c : Ch) [hX : ExC c L L'] (k : WP P n c0 Q σ G (c :: L')) : WP P n c0 Q σ G L := WP.cv (Cv.ex hX.ex) k
theorem Rs.cv {α : Type} {T : FT α} {v : Value} {xs : List α} (c : Cv L L') (h : Rs G L' T v xs) : Rs G L T v xs := fun w hs => h w (hs.cv c)
end
/-- the nil slice is owned by whoever wants it -/
theorem Cv.nilS {α : Type} {e : TypeId} {F : FT α} {L : List Ch} : Cv L (osl e F (.slice none 0 0) [] :: L) := fun hp s => ⟨fun _ => none, hp, fun _ => .inl rfl, (fun _ _ e => by cases e), Hp.le_refl _, .inl ⟨rfl, rfl⟩, s⟩
/-- each element's slice reads as its list -/
def RsE {α : Type} (G : Gh) (L : List Ch) (F : FT α) (xs : List (Sl α)) : Prop := ∀ i, i < xs.length → Rs G L F (gd xs i).v (gd xs i).xs
theorem RsE.up {α : Type} {G : Gh} {L L' : List Ch} {F : FT α} {xs : List (Sl α)} (h : RsE G L F xs) [p : PickC L L'] : RsE G L' F xs := fun i hi => (h i hi).up
theorem RsE.cv {α : Type} {G : Gh} {L L' : List Ch} {F : FT α} {xs : List (Sl α)} (c : Cv L L') (h : RsE G L' F xs) : RsE G L F xs := fun i hi => (h i hi).cv c
/-- the lists themselves -/
def er {α : Type} (xs : List (Sl α)) : List (List α) := xs.map Sl.xs
theorem er_len {α : Type} (xs : List (Sl α)) : (er xs).length = xs.length := by simp [er]
theorem er_gd {α : Type} (xs : List (Sl α)) (i : Nat) : gd (er xs) i = (gd xs i).xs := by
 simp only [gd, er, List.getElem?_map]
 cases xs[i]? <;> rfl
theorem OneL.sl {α : Type} {G : Gh} {L : List Ch} {F : FT α} {xs : List (Sl α)} (h : RsE G L F xs) : OneL G L slT xs := fun w hs a ha => by
 obtain ⟨i, hi, rfl⟩ := List.getElem_of_mem ha
 have := (h i hi w hs).1.one
 rw [gd_eq hi] at this
 simp [slT, allOne, this]
def ownS {α : Type} (e : TypeId) (F : FT α) (s : Sl α) : Ch := osl e F s.v s.xs
/-- the elements' slices are owned -/
abbrev bagS {α : Type} (e : TypeId) (F : FT α) (xs : List (Sl α)) : Ch := bag (xs.map (ownS e F))
theorem map_get {α β : Type} [Inhabited α] {f : α → β} {xs : List α} {i : Nat} (h : i < xs.length) : (xs.map f)[i]? = some (f (gd xs i)) := by simp [gd, h]
class ExBg {α : Type} (xs : List (Sl α)) (L : List Ch) (e : outParam TypeId) (F : outParam (FT α)) (L' : outParam (List Ch)) : Prop where
  ex : Ex (bagS e F xs) L L'
instance (priority := low) {α : Type} (xs : List (Sl α)) (x : Ch) (L : List Ch) (e : TypeId) (F : FT α) (L' : List Ch) [h : ExBg xs L e F L'] : ExBg xs (x :: L) e F (x :: L') := ⟨.tail x h.ex⟩
instance {α : Type} (xs : List (Sl α)) (L : List Ch) (e : TypeId) (F : FT α) : ExBg xs (bagS e F xs :: L) e F L := ⟨.head _ L⟩
theorem Rs.inBag {α : Type} {G : Gh} {L L' : List Ch} {e : TypeId} {F : FT α} {xs : List (Sl α)} (i : Nat) (hi : i < xs.length) [hX : ExBg xs L e F L'] : Rs G L F (gd xs i).v (gd xs i).xs :=
 Rs.cv (L' := osl e F (gd xs i).v (gd xs i).xs :: bag ((xs.map (ownS e F)).set i emp) :: L') ((Cv.ex hX.ex).trans (Cv.bagTake i (map_get hi))) Rs.o
theorem RsE.o {α : Type} {G : Gh} {L L' : List Ch} {e : TypeId} {F : FT α} {xs : List (Sl α)} [hX : ExBg xs L e F L'] : RsE G L F xs := fun i hi => Rs.inBag (L := L) (L' := L') (e := e) (F := F) (xs := xs) i hi
/-- the i-th slice is taken out of the bag and put back, changed -/
theorem Cv.bagS_take {α : Type} {e : TypeId} {F : FT α} {xs : List (Sl α)} {L : List Ch} (i : Nat) (hi : i < xs.length) : Cv (bagS e F xs :: L) (osl e F (gd xs i).v (gd xs i).xs :: bag ((xs.map (ownS e F)).set i emp) :: L) :=
 Cv.bagTake i (map_get hi)
theorem Cv.bagS_put {α : Type} {e : TypeId} {F : FT α} {xs : List (Sl α)} {v : Value} {ys : List α} {L : List Ch} (i : Nat) (hi : i < xs.length) : Cv (osl e F v ys :: bag ((xs.map (ownS e F)).set i emp) :: L) (bagS e F (xs.set i ⟨v, ys⟩) :: L) := by
 have h := Cv.bagPut (B := (xs.map (ownS e F)).set i emp) (L := L) (c := osl e F v ys) i (by simpa using hi)
 rw [List.set_set] at h
 have e1 : (xs.map (ownS e F)).set i (osl e F v ys) = (xs.set i ⟨v, ys⟩).map (ownS e F) := by rw [List.map_set]; rfl
 rw [e1] at h; exact h
theorem Cv.bagS_add {α : Type} {e : TypeId} {F : FT α} {xs : List (Sl α)} {v : Value} {ys : List α} {L : List Ch} : Cv (osl e F v ys :: bagS e F xs :: L) (bagS e F (xs ++ [⟨v, ys⟩]) :: L) := by
 have h := Cv.bagAdd (c := osl e F v ys) (B := xs.map (ownS e F)) (L := L)
 have e1 : xs.map (ownS e F) ++ [osl e F v ys] = (xs ++ [(⟨v, ys⟩ : Sl α)]).map (ownS e F) := by simp [ownS]
 rw [e1] at h; exact h
/-- an element of an owned slice of slices is set to a new owned slice -/
theorem Cv.slotNew {α : Type} {e e' : TypeId} {F : FT α} {v u : Value} {zs : List (Sl α)} {ys : List α} {L : List Ch} :
   Cv (osl e F u ys :: osl e' slT v (zs ++ [⟨u, ys⟩]) :: bagS e F zs :: L) (osl e' slT v (zs ++ [⟨u, ys⟩]) :: bagS e F (zs ++ [⟨u, ys⟩]) :: L) := by
 have h1 : Cv (osl e F u ys :: osl e' slT v (zs ++ [⟨u, ys⟩]) :: bagS e F zs :: L) (osl e' slT v (zs ++ [⟨u, ys⟩]) :: osl e F u ys :: bagS e F zs :: L) := Cv.swap (A := [osl e F u ys]) (B := [osl e' slT v (zs ++ [⟨u, ys⟩])])
 exact h1.trans (Cv.cons Cv.bagS_add)
theorem Cv.eqS {α : Type} {e : TypeId} {F : FT α} {v : Value} {xs ys : List α} {L : List Ch} (h : xs = ys) : Cv (osl e F v xs :: L) (osl e F v ys :: L) := by subst h; exact Cv.refl _
theorem Cv.bag0 {α : Type} {e : TypeId} {F : FT α} {xs : List (Sl α)} {L : List Ch} (h : xs = []) : Cv L (bagS e F xs :: L) := by subst h; exact Cv.bagNil
theorem Cv.grow {α : Type} {e : TypeId} {F : FT α} {u : Value} {us : List α} {ys ys' : List (Sl α)} {L : List Ch} (h : ys' = ys ++ [⟨u, us⟩]) : Cv (osl e F u us :: bagS e F ys :: L) (bagS e F ys' :: L) := by subst h; exact Cv.bagS_add
theorem splice_splice (cs vs us : List Value) (k j : Nat) (h : j + us.length ≤ vs.length) (hk : k + vs.length ≤ cs.length) (hv : ∀ i, i < vs.length → cs[k + i]? = vs[i]?) : splice cs k (splice vs j us) = splice cs (k + j) us := by
 apply List.ext_getElem?
 intro i
 rw [splice_get (splice vs j us) cs k i (by rw [splice_length]; omega), splice_get us cs (k + j) i (by omega), splice_length]
 by_cases h1 : k ≤ i ∧ i < k + vs.length
 · rw [if_pos h1, splice_get us vs j (i - k) h]
   by_cases h2 : j ≤ i - k ∧ i - k < j + us.length
   · rw [if_pos h2, if_pos (by omega)]; congr 1; omega
   · rw [if_neg h2, if_neg (by omega), ← hv (i - k) (by omega)]; congr 1; omega
 · rw [if_neg h1, if_neg (by omega)]
theorem flat_at {α : Type} [Inhabited α] (F : FT α) {xs : List α} {i : Nat} (hi : i < xs.length) : ∀ j, j < (F.enc (gd xs i)).length → (F.flat xs)[i * F.sz + j]? = (F.enc (gd xs i))[j]? := fun j hj => by
 have hc : (F.enc (gd xs i))[j]? = some (F.enc (gd xs i))[j] := List.getElem?_eq_getElem hj
 rw [F.flat_get (getG hi) hc, hc]
theorem set_self {α : Type} [Inhabited α] {xs : List α} {i : Nat} (hi : i < xs.length) : xs = xs.set i (gd xs i) := by
 rw [gd_eq hi, List.set_getElem_self]
section
variable {P : Program} {n : Nat} {σ : Nat → Value} {G : Gh} {L : List Ch} {o : Oper} {t : TypeId} {x y : Operand} {v : Value} {K : (Nat → Value) → Gh → List Ch → Prop}
theorem OT.storeF {α β : Type} [Inhabited α] {F : FT α} {e : TypeId} {xs ys : List α} {a : α} {val : β → Value} {cv : β → List Value} {u : β} {st : β → α → α} {s m i j : Nat} {sl : Value} {L' : List Ch} (ho : o.op = .store t x y) (hS : ∀ w, (sizeOf t).run P w = .ok m w) (hx : ev σ x = .pointer (some ⟨sb sl, so sl + i * s + j, none⟩)) (hs0 : s = F.sz) (hy : ev σ y = val u)
   (hv' : Cl G L (val u) (cv u)) (hl : (cv u).length = m) (h1' : OneC G L (cv u)) [hX : ExS sl L α e F xs L'] (hxs : xs = ys.set i a) (hi : i < ys.length) (hj : Nat.ble (j + m) F.sz = true) (he : ∀ u a, splice (F.enc a) j (cv u) = F.enc (st u a)) (K1 : K (updo σ o.dst undef) G (osl e F sl (ys.set i (st u a)) :: L')) : OT P n o σ G L K := by
 generalize hvs : cv u = vs at hl h1' hv'
 generalize hvu : val u = v at hy hv'
 have hj := Nat.le_of_ble_eq_true hj
 subst hs0 hl
 have hlen : xs.length = ys.length := by rw [hxs]; simp
 have hga : gd xs i = a := by rw [hxs, gd_eq (by simpa using hi)]; simp
 have hle : i * F.sz + F.sz ≤ xs.length * F.sz := by
   have := Nat.mul_le_mul_right F.sz (show i + 1 ≤ xs.length by omega); rwa [Nat.add_mul, Nat.one_mul] at this
 refine OT.ofRunU fun w hs => ?_
 have h1 := allOne_all (h1' w hs)
 have hv := hv' w hs
 have hb : ∃ b cap c, sl = .slice (some ⟨b, 0, none⟩) xs.length cap ∧ wh w b = some (.cells c e (0, 0)) ∧ xs.length ≤ cap ∧ cap ≤ maxLen ∧ c.size = cap * F.sz ∧ c.toList.take (xs.length * F.sz) = F.flat xs := by
   obtain ⟨hp, s, l1, l2, d⟩ := hs
   obtain ⟨g1, g2, _, m1, _, cc, _⟩ := hX.ex.sep s
   rcases cc with ⟨_, h⟩ | ⟨b, cap, c, h1, h2, h3⟩
   · simp [h] at hlen; omega
   · exact ⟨b, cap, c, h1, l2 _ _ (m1 _ _ h2), h3⟩
 obtain ⟨b, cap, c, rfl, hb, h3, h4, h5, h6⟩ := hb
 simp only [sb, so, Nat.zero_add] at hx
 have hsz : v.cells.size = vs.length := by rw [← hv]; simp
 have hcap : xs.length * F.sz ≤ c.size := by rw [h5]; exact Nat.mul_le_mul_right _ h3
 obtain ⟨w', hr, hq, hw'⟩ := storeCells_run (P := P) vs b (i * F.sz + j) 0 c e w h1 hb (by omega)
 have hrun : (storeVar t ⟨b, i * F.sz + j, none⟩ v).run P w = .ok () w' := by
   simp [storeVar, hS w, hsz, hv, hr]
 refine ⟨G, _, w', ?_, hs.set hq hX.ex (b := b) (fun h hh => ?_) hw' (c' := osl e F (.slice (some ⟨b, 0, none⟩) xs.length cap) (ys.set i (st u a))) (fun h hh _ => ?_), K1⟩
 · simp [execOp, ho, hx, hy, Instr.storeAt, Instr.sureAddr, hrun]
 · rcases hh with ⟨_, h⟩ | ⟨b', cap', c', h1, h2, _⟩
   · simp [h] at hlen; omega
   · simp only [Value.slice.injEq, Option.some.injEq, Addr.mk.injEq] at h1
     obtain ⟨⟨rfl, _⟩, _⟩ := h1
     simp [h2]
 · refine .inr ⟨b, cap, (splice c.toList (i * F.sz + j + 0) vs).toArray, by simp [hlen], by simp, by simp; omega, h4, by simp [splice_length, h5], ?_⟩
   have e1 : F.flat (ys.set i (st u a)) = splice (F.flat xs) (i * F.sz) (F.enc (st u a)) := by
     rw [← flat_set F xs i (st u a) (by omega), hxs, List.set_set]
   rw [List.length_set, Nat.add_zero, ← hlen, e1, ← he, hvs, ← hga, splice_splice _ _ _ _ _ (by rw [F.len]; exact hj) (by rw [F.len, F.flat_len]; exact hle) (fun k hk => flat_at F (by omega) k hk), ← h6]
   exact splice_take _ _ _ _ (by omega) (by simpa using hcap)
end
def costL {α : Type} (n : α → Int) : List α → Int
  | [] => 0
  | a :: l => n a + costL n l
theorem costL_append {α : Type} (n : α → Int) : ∀ (xs ys : List α), costL n (xs ++ ys) = costL n xs + costL n ys
 | [], ys => by simp [costL]
 | x :: xs, ys => by simp only [List.cons_append, costL, costL_append n xs ys]; omega
theorem costL_take {α : Type} [Inhabited α] (n : α → Int) {xs : List α} {i : Nat} (h : i < xs.length) : costL n (xs.take (i + 1)) = costL n (xs.take i) + n (gd xs i) := by
 rw [List.take_add_one, getG h, costL_append]; simp [costL]
end Go.Proofs.YthhjapiggekjbaaGreat
namespace Go.Proofs.YthhjapiggekjbaaGreat
set_option linter.unusedVariables false
set_option linter.unusedSimpArgs false
open Go
set_option linter.unusedVariables false
/-- the part [lo:hi] of a slice whose elements have s cells -/
def slv (s : Nat) (v : Value) (lo hi : Nat) : Value :=
  match v with
  | .slice a n c => .slice (if c = lo then a else a.map (·.add (lo * s))) (hi - lo) (c - lo)
  | v => v
def optAt (σ : Nat → Value) (x : Option Operand) (d j : Nat) : Prop :=
  match x with
  | none => j = d
  | some x => ∃ k, ev σ x = .int k (j : Int)
theorem FT.flat_drop {α : Type} (F : FT α) : ∀ (xs : List α) (k : Nat), F.flat (xs.drop k) = (F.flat xs).drop (k * F.sz)
 | xs, 0 => by simp
 | [], k + 1 => by simp [FT.flat]
 | x :: xs, k + 1 => by
   have ih := FT.flat_drop F xs k
   have e : F.flat (x :: xs) = F.enc x ++ F.flat xs := by simp [FT.flat]
   rw [List.drop_succ_cons, ih, e, List.drop_append, F.len, List.drop_of_length_le (l := F.enc x) (by rw [F.len, Nat.add_mul]; omega), List.nil_append]
   congr 1; rw [Nat.add_mul]; omega
theorem FT.flat_take {α : Type} (F : FT α) : ∀ (xs : List α) (k : Nat), F.flat (xs.take k) = (F.flat xs).take (k * F.sz)
 | xs, 0 => by simp [FT.flat]
 | [], k + 1 => by simp [FT.flat]
 | x :: xs, k + 1 => by
   have ih := FT.flat_take F xs k
   have e : F.flat (x :: xs) = F.enc x ++ F.flat xs := by simp [FT.flat]
   have e' : F.flat (x :: xs.take k) = F.enc x ++ F.flat (xs.take k) := by simp [FT.flat]
   rw [List.take_succ_cons, e', ih, e, List.take_append, F.len, List.take_of_length_le (l := F.enc x) (by rw [F.len, Nat.add_mul]; omega)]
   congr 2; rw [Nat.add_mul]; omega
theorem IsSl.slv {v : Value} {n s lo hi : Nat} (h : IsSl v n) (h1 : lo ≤ hi) (h2 : hi ≤ n) : IsSl (slv s v lo hi) (hi - lo) := by
 obtain ⟨c, hc1, hc2, ⟨b, k, rfl⟩ | ⟨⟨a, rfl⟩, h0⟩⟩ := h
 · refine ⟨c - lo, by omega, by omega, ?_⟩
   simp only [Go.Proofs.YthhjapiggekjbaaGreat.slv]
   by_cases e : c = lo
   · rw [if_pos e]; exact .inl ⟨b, k, rfl⟩
   · rw [if_neg e]; exact .inl ⟨b, k + lo * s, by simp [add_none]⟩
 · refine ⟨c - lo, by omega, by omega, .inr ⟨⟨_, rfl⟩, by omega⟩⟩
theorem Rs.slv {α : Type} {G : Gh} {L : List Ch} {F : FT α} {v : Value} {xs : List α} {lo hi : Nat} (h : Rs G L F v xs) (h1 : lo ≤ hi) (h2 : hi ≤ xs.length) : Rs G L F (slv F.sz v lo hi) ((xs.take hi).drop lo) := by
 intro w hs
 obtain ⟨hi', hg⟩ := h w hs
 have hl : ((xs.take hi).drop lo).length = hi - lo := by simp; omega
 refine ⟨by rw [hl]; exact hi'.slv h1 h2, fun j c hj => ?_⟩
 have hj' := hj
 rw [FT.flat_drop, List.getElem?_drop, FT.flat_take, List.getElem?_take] at hj
 split at hj
 · have key := hg (lo * F.sz + j) c hj
   obtain ⟨c', hc1, hc2, ⟨b, k, rfl⟩ | ⟨⟨a, rfl⟩, h0⟩⟩ := hi'
   · simp only [Go.Proofs.YthhjapiggekjbaaGreat.slv]
     by_cases e : c' = lo
     · exfalso
       have := (List.getElem?_eq_some_iff.1 hj').1
       rw [FT.flat_len, hl] at this
       have : hi - lo = 0 := by omega
       simp_all
     · rw [if_neg e]
       simp only [Option.map_some, add_none, sb, so] at key ⊢
       rw [← key]; congr 2; omega
   · exfalso
     have := (List.getElem?_eq_some_iff.1 hj').1
     rw [FT.flat_len, hl] at this
     have : hi - lo = 0 := by omega
     simp_all
 · cases hj
def isNilS : Value → Bool
  | .slice none _ _ => true
  | _ => false
/-- the function value fv, called with arg, hands back b and leaves the state -/
def CB (P : Program) (G : Gh) (L : List Ch) (fv : Value) (arg : List Value) (b : Value) : Prop :=
  ∃ f first caps, fv = .func (.func f) first.toArray caps.toArray ∧ Ent P f ∧ ∀ (L' : List Ch) (R : Value → Gh → List Ch → Prop), Cv L' L → R b G L' → CallT P f (first ++ arg ++ caps).toArray G L' R
theorem CB.cv {P : Program} {G : Gh} {L L' : List Ch} {fv : Value} {arg : List Value} {b : Value} (h : CB P G L fv arg b) (p : Cv L' L) : CB P G L' fv arg b := by
 obtain ⟨f, first, caps, h1, h2, h3⟩ := h
 exact ⟨f, first, caps, h1, h2, fun M R q => h3 M R (q.trans p)⟩
theorem CB.up {P : Program} {G : Gh} {L L' : List Ch} {fv : Value} {arg : List Value} {b : Value} (h : CB P G L fv arg b) [p : PickC L L'] : CB P G L' fv arg b := h.cv (Cv.pick p.pick)
/-- a function without captured variables -/
theorem CB.mk0 {P : Program} {G : Gh} {L : List Ch} {f : FuncId} {arg : List Value} {b : Value} (hE : Ent P f) (h : ∀ (L' : List Ch) (R : Value → Gh → List Ch → Prop), Cv L' L → R b G L' → CallT P f arg.toArray G L' R) : CB P G L (.func (.func f) #[] #[]) arg b :=
 ⟨f, [], [], rfl, hE, fun L' R c k => by simpa using h L' R c k⟩
theorem CB.mk1 {P : Program} {G : Gh} {L : List Ch} {f : FuncId} {arg : List Value} {b c : Value} (hE : Ent P f) (h : ∀ (L' : List Ch) (R : Value → Gh → List Ch → Prop), Cv L' L → R b G L' → CallT P f (arg ++ [c]).toArray G L' R) : CB P G L (.func (.func f) #[] #[c]) arg b :=
 ⟨f, [], [c], rfl, hE, fun L' R c k => by simpa using h L' R c k⟩
theorem Rd.cv {G : Gh} {L L' : List Ch} {b k : Nat} {v : Value} (h : Rd G L b k v) (c : Cv L' L) : Rd G L' b k v := fun w hs => h w (hs.cv c)
theorem Rd.up {G : Gh} {L L' : List Ch} {b k : Nat} {v : Value} (h : Rd G L b k v) [p : PickC L L'] : Rd G L' b k v := h.cv (Cv.pick p.pick)
/-- a variable of several cells, read -/
def RdN (G : Gh) (L : List Ch) (b : Nat) (cs : List Value) : Prop := ∀ j c, cs[j]? = some c → Rd G L b (0 + j) c
theorem RdN.cv {G : Gh} {L L' : List Ch} {b : Nat} {cs : List Value} (h : RdN G L b cs) (c : Cv L' L) : RdN G L' b cs := fun j x e => (h j x e).cv c
theorem RdN.up {G : Gh} {L L' : List Ch} {b : Nat} {cs : List Value} (h : RdN G L b cs) [p : PickC L L'] : RdN G L' b cs := h.cv (Cv.pick p.pick)
theorem RdN.blk {G : Gh} {L L' : List Ch} {b : Nat} {e : TypeId} {cs : List Value} [hx : ExB b L e cs L'] : RdN G L b cs := fun j _ h => by rw [Nat.zero_add]; exact Rd.blk (cs := cs) h
section
variable {P : Program} {n : Nat} {ops : Array Oper} {rest : List Oper} {Q : Post} {σ : Nat → Value} {G : Gh} {L : List Ch} {o : Oper} {K : (Nat → Value) → Gh → List Ch → Prop}
variable {l : List Operand} {ats : Array TypeId} {fo : Operand} {fv : Value} {vs : List Value} {b : Value}
theorem OT.callB (ho : o.op = .call { callee := .value fo, args := l.toArray, argTypes := ats }) (hf : ev σ fo = fv) (ha : cargs σ l = vs) (h : CB P G L fv vs b) (k : K (updo σ o.dst b) G L) : OT P n o σ G L K := by
 obtain ⟨f, first, caps, rfl, hE, h3⟩ := h
 subst ha
 exact OT.call ho hf hE (h3 L _ (Cv.refl L) k)
theorem RG.callB (hg : o.guard = none) (ho : o.op = .call { callee := .value fo, args := l.toArray, argTypes := ats }) (hf : ev σ fo = fv) (ha : cargs σ l = vs) (h : CB P G L fv vs b) (k : RG P n ops rest Q (updo σ o.dst b) G L) : RG P n ops (o :: rest) Q σ G L :=
 RG.ot hg (OT.callB ho hf ha h k)
theorem RQ.callB (hg : o.guard = none) (ho : o.op = .call { callee := .value fo, args := l.toArray, argTypes := ats }) (hf : ev σ fo = fv) (ha : cargs σ l = vs) (h : CB P G L fv vs b) (k : RQ P n ops rest Q (updo σ o.dst b) G L) : RQ P n ops (o :: rest) Q σ G L := by
 obtain ⟨f, first, caps, rfl, hE, h3⟩ := h
 subst ha
 exact RQ.callC hg ho hf hE (h3 L _ (Cv.refl L) ⟨rfl, rfl, rfl⟩) k
theorem PV.slc {T : TypeId} {x : Operand} {lo hi : Option Operand} {l h m s : Nat} {e : TypeId} {v : Value} (ho : o.op = .slice T x lo hi none) (hI : IdxS P T e s) (hx : ev σ x = v) (hs : SlF G L v m) (hlo : optAt σ lo 0 l) (hhi : optAt σ hi m h) (h1 : l ≤ h) (h2 : h ≤ m) : PV P o σ G L (slv s v l h) := by
 obtain ⟨hu, hi'⟩ := hI
 obtain ⟨inf, h3, rfl⟩ := info_size hi'
 clear hi'
 intro w hw
 have hbd : ∀ c, m ≤ c → (Instr.sliceBounds true m c (lo.map (ev σ)) (hi.map (ev σ)) none).run P w = .ok (l, h, c) w := by
   intro c hc
   have hl' : ∀ k : IntKind, (0 : Int) ≤ (l : Int) ∧ (l : Int) ≤ (h : Int) := fun _ => ⟨by omega, by omega⟩
   cases lo with
   | none =>
     have hlo : l = 0 := hlo
     subst hlo
     cases hi with
     | none => have hhi : h = m := hhi; subst hhi; simp [Instr.sliceBounds]
     | some y =>
       obtain ⟨k, hy⟩ := hhi
       have : h ≤ c := by omega
       simp [Instr.sliceBounds, Instr.sliceBound, hy, asIntOf, this]
   | some x' =>
     obtain ⟨k', hx'⟩ := hlo
     cases hi with
     | none => have hhi : h = m := hhi; subst hhi; simp [Instr.sliceBounds, Instr.sliceBound, hx', asIntOf, h1]
     | some y =>
       obtain ⟨k, hy⟩ := hhi
       have : h ≤ c := by omega
       simp [Instr.sliceBounds, Instr.sliceBound, hy, hx', asIntOf, this, h1]
 have key : ∀ a c, m ≤ c → (execOp (ev σ) o).run P w = .ok (.value (slv inf.size (.slice a m c) l h)) w ∨ v ≠ .slice a m c := by
   intro a c hc
   by_cases hv : v = .slice a m c
   · left
     have hx' : ev σ x = .slice a m c := hx.trans hv
     simp only [execOp, ho, hx', Instr.sliceAt, Sem.run_bind, run_underlying hu, Result.andThen_ok, Instr.slice, Option.map_none, hbd c hc, sizeOf, typeInfo, run_program, h3, Sem.run_pure, slv]
   · exact .inr hv
 obtain ⟨c, hc1, hc2, ⟨b, k, hv⟩ | ⟨⟨a, hv⟩, h0⟩⟩ := hs w hw
 · rcases key (some ⟨b, k, none⟩) c hc1 with h | h
   · rw [hv]; exact h
   · exact absurd hv h
 · rcases key a c hc1 with h | h
   · rw [hv]; exact h
   · exact absurd hv h
theorem PV.eqlNil {T T' : TypeId} {x : Operand} {e : TypeId} {m : Nat} {v : Value} (ho : o.op = .binOp .eql T x (.const (.slice none 0 0)) T') (hu : P.underlying T = some (.slice e)) (hx : ev σ x = v) (hs : SlF G L v m) : PV P o σ G L (.bool (isNilS v)) := by
 intro w hw
 have hv : ∃ a n c, v = .slice a n c := by
   obtain ⟨c, hc1, hc2, ⟨b, k, hv⟩ | ⟨⟨a, hv⟩, h0⟩⟩ := hs w hw
   · exact ⟨_, _, _, hv⟩
   · exact ⟨_, _, _, hv⟩
 obtain ⟨a, n, c, rfl⟩ := hv
 have hy : ev σ (.const (.slice none 0 0)) = .slice none 0 0 := rfl
 cases a with
 | none => simp [execOp, ho, hx, hy, eqGuard, Go.Lib.run_eql_slice_nil_nil w n c hu, isNilS]
 | some a => simp [execOp, ho, hx, hy, eqGuard, Go.Lib.run_eql_slice_some_nil w a n c hu, isNilS]
end
theorem optAt.n {σ : Nat → Value} {d : Nat} : optAt σ none d d := rfl
theorem optAt.s {σ : Nat → Value} {x : Operand} {d j : Nat} {k : IntKind} {a : Int} (h : ev σ x = .int k a) (e : a = (j : Int)) : optAt σ (some x) d j := ⟨k, by rw [h, e]⟩
theorem PV.mkf1 {P : Program} {o : Oper} {σ : Nat → Value} {G : Gh} {L : List Ch} {fn : Fn} {x : Operand} {a : Nat} (ho : o.op = .makeFunc fn #[] #[x]) (hx : ev σ x = .pointer (some ⟨a, 0, none⟩)) : PV P o σ G L (.func fn #[] #[.pointer (some ⟨a, 0, none⟩)]) := by
 intro w _; simp [execOp, ho, Instr.makeFunc, hx]
theorem isNilS_nil {α : Type} {G : Gh} {L : List Ch} {F : FT α} {v : Value} {xs : List α} {w : World} (h : Rs G L F v xs) (hs : St G L w) (e : isNilS v = true) : xs = [] := by
 obtain ⟨c, _, _, ⟨b, k, rfl⟩ | ⟨⟨a, rfl⟩, h0⟩⟩ := (h w hs).1
 · cases e
 · exact List.eq_nil_of_length_eq_zero h0
/-- what the worlds of a state say may be used -/
theorem CallT.st {P : Program} {f : FuncId} {args : Array Value} {G : Gh} {L : List Ch} {R : Value → Gh → List Ch → Prop} {A : Prop} (h : ∀ w, St G L w → A) (k : A → CallT P f args G L R) : CallT P f args G L R := CallT.of fun w hs => (k (h w hs)).run hs
end Go.Proofs.YthhjapiggekjbaaGreat
namespace Go.Proofs.YthhjapiggekjbaaGreat
set_option linter.unusedVariables false
set_option linter.unusedSimpArgs false
open Go
set_option maxRecDepth 20000
set_option linter.unusedSimpArgs false
variable {G : Gh} {L : List Ch} {R : Value → Gh → List Ch → Prop}
theorem isReg_valid {xs : List Rect} (h : isReg xs = true) : validRs xs = true := by simp [isReg] at h; exact h.1
theorem isReg_len {xs : List Rect} (h : isReg xs = true) : xs.length ≤ 3200 := by
 have := isReg_valid h; simp [validRs] at this; exact this.1
theorem isReg_eq {xs : List Rect} (h : isReg xs = true) : canon (bits xs) = xs := by simp [isReg] at h; exact h.2
theorem isReg_canon {bs : List Bool} (h : bs.length = 6400) : isReg (canon bs) = true := by
 simp only [isReg, Bool.and_eq_true, decide_eq_true_eq]
 refine ⟨?_, by rw [bits_canon h]⟩
 simp only [validRs, Bool.and_eq_true, decide_eq_true_eq, List.all_eq_true]
 exact ⟨canon_len bs, fun r hr => by have := canonFrom_mem bs 0 r hr; simp [validRect]; omega⟩
def idxI {α : Type} (p : α → Bool) (xs : List α) : Int :=
  match xs.findIdx? p with
  | some i => i
  | none => -1
theorem idxI_at {α : Type} [Inhabited α] {p : α → Bool} {xs : List α} {i : Nat} (h : i < xs.length) (hp : p (gd xs i) = true) (hj : ∀ j, j < i → p (gd xs j) = false) : idxI p xs = i := by
 have : xs.findIdx? p = some i := by
   rw [List.findIdx?_eq_some_iff_getElem]
   refine ⟨h, by rwa [gd_eq h] at hp, fun j hji => ?_⟩
   have := hj j hji
   rw [gd_eq (by omega)] at this; simp [this]
 simp [idxI, this]
theorem idxI_none {α : Type} [Inhabited α] {p : α → Bool} {xs : List α} (hj : ∀ j, j < xs.length → p (gd xs j) = false) : idxI p xs = -1 := by
 have : xs.findIdx? p = none := by
   rw [List.findIdx?_eq_none_iff]
   intro x hx
   obtain ⟨j, hj', rfl⟩ := List.getElem_of_mem hx
   rw [← gd_eq hj']; exact hj j hj'
 simp [idxI, this]
theorem idxI_any {α : Type} (p : α → Bool) (xs : List α) : decide (0 ≤ idxI p xs) = xs.any p := by
 rw [← List.findIdx?_isSome, idxI]
 cases xs.findIdx? p <;> simp
def isLay (l : List (List Rect)) : Bool := decide (l.length = 8) && l.all isReg
theorem isLay_len {l : List (List Rect)} (h : isLay l = true) : l.length = 8 := by simp [isLay] at h; exact h.1
theorem isLay_reg {l : List (List Rect)} (h : isLay l = true) {i : Nat} (hi : i < 8) : isReg (gd l i) = true := by
 simp only [isLay, Bool.and_eq_true, decide_eq_true_eq, List.all_eq_true] at h
 rw [gd_eq (by omega)]; exact h.2 _ (List.getElem_mem _)
theorem isLay_all {l : List (List Rect)} (h : ∀ i, i < l.length → isReg (gd l i) = true) : isLay l = decide (l.length = 8) := by
 have : l.all isReg = true := by
   rw [List.all_eq_true]
   intro x hx
   obtain ⟨j, hj', rfl⟩ := List.getElem_of_mem hx
   rw [← gd_eq hj']; exact h j hj'
 simp only [isLay, this, Bool.and_true]
def zipB (f : Bool → Bool → Bool) (a b : List Bool) : List Bool := List.zipWith f a b
theorem zipB_len {f : Bool → Bool → Bool} {a b : List Bool} (h : a.length = 6400) (h' : b.length = 6400) : (zipB f a b).length = 6400 := by simp [zipB, h, h']
theorem zipB_gd {f : Bool → Bool → Bool} {a b : List Bool} {i : Nat} (h : i < a.length) (h' : i < b.length) : gd (zipB f a b) i = f (gd a i) (gd b i) := by
 rw [gd_eq (by simp [zipB]; omega), gd_eq h, gd_eq h']; simp [zipB]
theorem zipB_get {f : Bool → Bool → Bool} {a b : List Bool} {i : Nat} (h : i < a.length) (h' : i < b.length) : (zipB f a b)[i]? = some (f (gd a i) (gd b i)) := by
 rw [getG (by simp [zipB]; omega), zipB_gd h h']
def opR (f : Bool → Bool → Bool) (xs ys : List Rect) : List Rect := bif isReg xs && isReg ys then canon (zipB f (bits xs) (bits ys)) else []
theorem combine_s {v u fv : Value} {xs ys : List Rect} {f : Bool → Bool → Bool} (h1 : Rs G L rectT v xs) (h2 : Rs G L rectT u ys) (hE : ∀ p q, CB Tryz.prog G L fv [.bool p, .bool q] (.bool (f p q))) (k : ∀ v', R v' G (osl 140 rectT v' (opR f xs ys) :: L)) :
   CallT Tryz.prog 137 #[v, u, fv] G L R := by
 refine CallT.enter (args := _) Tryz.func137 rfl rfl (by kernel_rfl) rfl ?_
 refine WP.seq (WP.region (RG.pv rfl (PV.asg rfl rfl) (RG.nil (WP.seq (WP.seq (WP.region (RG.pv rfl (PV.move (v := v) rfl rfl) ?_)))))))
 refine RG.callF (vs := [v]) rfl rfl En91 rfl (isRegion_s (Rs.up h1) ?_)
 refine RG.pv rfl (PV.not rfl rfl) (RG.bl rfl rfl rfl ?_)
 refine RG.gs rfl rfl rfl (fun hp => (PV.move (v := u) rfl rfl)) ?_
 refine RG.gsC rfl rfl rfl rfl En91 (fun hp => ⟨_, (acons (gs_t hp) anil), isRegion_s (Rs.up h2) ⟨rfl, rfl, rfl⟩⟩) ?_
 refine RG.gs rfl rfl rfl (fun hp => (PV.not rfl (gs_t hp))) ?_
 refine RG.pv rfl (PV.pickO rfl rfl rfl (fun hq => gs_t (geqF hq))) (RG.nil ?_)
 refine WP.cond rfl (fun h3 => ?_) (fun h3 => ?_)
 · have e : opR f xs ys = [] := by simp only [opR]; cases h4 : isReg xs <;> cases h5 : isReg ys <;> simp_all
   rw [e] at k
   refine WP.seq (WP.region (RG.pv rfl (PV.asg rfl rfl) (RG.nil ?_)))
   refine WP.ret ?_
   exact ⟨_, _, ResV.one rfl rfl, Cv.nilS, k _⟩
 · have hx : isReg xs = true := by cases h4 : isReg xs <;> simp_all
   have hy : isReg ys = true := by cases h5 : isReg ys <;> simp_all
   have e : opR f xs ys = canon (zipB f (bits xs) (bits ys)) := by simp [opR, hx, hy]
   rw [e] at k
   refine WP.skip (WP.seq (WP.region (RG.pv rfl (PV.move (v := v) rfl rfl) ?_)))
   refine RG.callF (vs := [v]) rfl rfl En124 rfl (cellsOf_s (Rs.up h1) (fun b7 => ?_))
   refine RG.pv rfl (PV.move (v := u) rfl rfl) ?_
   refine RG.callF (vs := [u]) rfl rfl En124 rfl (cellsOf_s (Rs.up h2) (fun b8 => ?_))
   refine RG.pv rfl (PV.build0 rfl Tryz.underlying148 ⟨80, by kernel_rfl⟩ (zeroB_spec (n := 6400) (by kernel_rfl))) ?_
   refine RG.ot rfl (OT.boxG rfl rfl fun b25 => ?_)
   refine RG.pv rfl (PV.asg rfl rfl) (RG.pv rfl (PV.asg rfl rfl) (RG.pv rfl (PV.mvP (.inr rfl) rfl) (RG.nil (WP.seq (WP.seq (WP.region (RG.ml rfl rfl rfl ?_)))))))
   refine RG.nil (WP.block ?_)
   have hlx := bits_length xs
   have hly := bits_length ys
   refine WP.loop2 [2, 7, 8, 9] (fun (i : Nat) (cs : List Bool) => i ≤ 80 ∧ cs.length = 6400 ∧ ∀ j, j < i * 80 → gd cs j = f (gd (bits xs) j) (gd (bits ys) j)) (fun (i : Nat) (cs : List Bool) => [(26, vi i)]) (fun (i : Nat) (cs : List Bool) => grd b25 cs :: grd b8 (bits ys) :: grd b7 (bits xs) :: L) (fun (i : Nat) (cs : List Bool) => 80 - i) 0 (List.replicate 6400 false) ⟨by omega, by simp, fun j h => by omega⟩ ⟨rfl, trivial⟩ Cv.p ?_
   rintro i cs τ ⟨hi, hlc, hc⟩
   refine WP.seq (WP.region (RG.pv rfl (PV.lss rfl rfl rfl) (RG.nil (WP.seq ?_))))
   refine WP.cond rfl (fun h4 => ?_) (fun h4 => ?_)
   · have h4 := of_decide_eq_true h4
     refine WP.skip (WP.seq (WP.block (WP.seq (WP.region (RG.ml rfl rfl rfl (RG.mr rfl rfl rfl (RG.nil ?_)))))))
     refine WP.seq (WP.region (RG.ml rfl rfl rfl (RG.nil (WP.block ?_))))
     refine WP.loop2 [2, 7, 8, 9, 10, 26] (fun (m : Nat) (ds : List Bool) => m ≤ 80 ∧ ds.length = 6400 ∧ ∀ j, j < i * 80 + m → gd ds j = f (gd (bits xs) j) (gd (bits ys) j)) (fun (m : Nat) (ds : List Bool) => [(29, vi m)]) (fun (m : Nat) (ds : List Bool) => grd b25 ds :: grd b8 (bits ys) :: grd b7 (bits xs) :: L) (fun (m : Nat) (ds : List Bool) => 80 - m) 0 cs ⟨by omega, hlc, fun j h => hc j (by omega)⟩ ⟨rfl, trivial⟩ Cv.p ?_
     rintro m ds τ1 ⟨hm, hld, hd⟩
     refine WP.seq (WP.region (RG.pv rfl (PV.lss rfl rfl rfl) (RG.nil (WP.seq ?_))))
     refine WP.cond rfl (fun h5 => ?_) (fun h5 => ?_)
     · have h5 := of_decide_eq_true h5
       refine WP.skip (WP.seq (WP.block (WP.seq (WP.region (RG.ml rfl rfl rfl (RG.mr rfl rfl rfl (RG.nil ?_)))))))
       refine WP.regionHD [.b b25] (.q 0 (.q 1 (.q 2 (.q 3 (.q 4 (.q 5 (.q 6 (.q 7 (.q 8 (.q 9 (.q 10 (.q 11 (.q 12 (.q 13 (.q 14 (.q 15 (.q 16 (.q 17 (.q 19 (.q 20 (.l 18 (.q 21 (.l 22 Sch.nil))))))))))))))))))))))) (by kernel_rfl) (by kernel_rfl) (by kernel_rfl) rfl ?_
       refine RH.pv rfl (fun _ _ _ _ h => h) (Gh.le_refl _) PickC.pick rfl (PV.mvP (.inl rfl) rfl) ?_
       refine RH.pv rfl (fun _ _ _ _ h => h) (Gh.le_refl _) PickC.pick rfl (PV.mvI (.inl rfl) rfl) ?_
       refine RH.pv rfl (fun _ _ _ _ h => h) (Gh.le_refl _) PickC.pick rfl (PV.mvI (.inl rfl) rfl) ?_
       refine RH.pv rfl (fun _ _ _ _ h => h) (Gh.le_refl _) PickC.pick rfl (PV.move (v := fv) rfl rfl) ?_
       refine RH.pv rfl (fun _ _ _ _ h => h) (Gh.le_refl _) PickC.pick rfl (PV.mvP (.inl rfl) rfl) ?_
       refine RH.pv rfl (fun _ _ _ _ h => h) (Gh.le_refl _) PickC.pick rfl (PV.mvI (.inl rfl) rfl) ?_
       refine RH.pv rfl (fun _ _ _ _ h => h) (Gh.le_refl _) PickC.pick rfl (PV.mvI (.inl rfl) rfl) ?_
       refine RH.pv rfl (fun _ _ _ _ h => h) (Gh.le_refl _) PickC.pick rfl (PV.nilc rfl rfl) ?_
       refine RH.pv rfl (fun _ _ _ _ h => h) (Gh.le_refl _) PickC.pick rfl (PV.idxA rfl Ia148 rfl rfl rfl (by omega)) ?_
       refine RH.pv rfl (fun _ _ _ _ h => h) (Gh.le_refl _) PickC.pick rfl (PV.idxA rfl Ia146 rfl rfl rfl (by omega)) ?_
       refine RH.pv rfl (fun _ _ _ _ h => h) (Gh.le_refl _) PickC.pick rfl (PV.loadGr rfl Sc4 rfl rfl (by omega)) ?_
       refine RH.pv rfl (fun _ _ _ _ h => h) (Gh.le_refl _) PickC.pick rfl (PV.mvP (.inl rfl) rfl) ?_
       refine RH.pv rfl (fun _ _ _ _ h => h) (Gh.le_refl _) PickC.pick rfl (PV.mvI (.inl rfl) rfl) ?_
       refine RH.pv rfl (fun _ _ _ _ h => h) (Gh.le_refl _) PickC.pick rfl (PV.mvI (.inl rfl) rfl) ?_
       refine RH.pv rfl (fun _ _ _ _ h => h) (Gh.le_refl _) PickC.pick rfl (PV.nilc rfl rfl) ?_
       refine RH.pv rfl (fun _ _ _ _ h => h) (Gh.le_refl _) PickC.pick rfl (PV.idxA rfl Ia148 rfl rfl rfl (by omega)) ?_
       refine RH.pv rfl (fun _ _ _ _ h => h) (Gh.le_refl _) PickC.pick rfl (PV.idxA rfl Ia146 rfl rfl rfl (by omega)) ?_
       refine RH.pv rfl (fun _ _ _ _ h => h) (Gh.le_refl _) PickC.pick rfl (PV.loadGr rfl Sc4 rfl rfl (by omega)) ?_
       refine RH.pv rfl (fun _ _ _ _ h => h) (Gh.le_refl _) PickC.pick rfl (PV.nilc rfl rfl) ?_
       refine RH.pv rfl (fun _ _ _ _ h => h) (Gh.le_refl _) PickC.pick rfl (PV.idxA rfl Ia148 rfl rfl rfl (by omega)) ?_
       refine RH.ot rfl rfl (OT.callB (vs := [_, _]) rfl rfl rfl (CB.up (hE _ _)) ⟨Gh.le_refl _, PickC.pick, ?_⟩)
       refine RH.pv rfl (fun _ _ _ _ h => h) (Gh.le_refl _) PickC.pick rfl (PV.idxA rfl Ia146 rfl rfl rfl (by omega)) ?_
       refine RH.ot rfl rfl (OT.storeGr rfl Sz4 rfl rfl rfl (by first | omega | (simp; omega)) ⟨Gh.le_refl _, PickC.pick, ?_⟩)
       refine RH.nil ?_
       refine WP.region (RG.pv rfl (PV.add rfl rfl rfl (by omega)) (RG.ml rfl rfl rfl (RG.nil ?_)))
       refine ⟨rfl, m + 1, (ds.set (0 + i * 80 + m * 1) (f (gd (bits xs) (0 + i * 80 + m * 1)) (gd (bits ys) (0 + i * 80 + m * 1)))), ⟨by omega, by simpa using hld, fun j hj => ?_⟩, ⟨rfl, trivial⟩, ⟨rfl, rfl, rfl, rfl, rfl, rfl, trivial⟩, Cv.p, by omega⟩
       rw [show 0 + i * 80 + m * 1 = i * 80 + m by omega]
       by_cases c : j = i * 80 + m
       · subst c; rw [gd_eq (by simp; omega)]; simp
       · have := hd j (by omega)
         rw [← this]; simp only [gd]; rw [List.getElem?_set, if_neg (Ne.symm c)]
     · have h5 := of_decide_eq_false h5
       refine WP.exit ?_
       refine WP.region (RG.pv rfl (PV.add rfl rfl rfl (by omega)) (RG.ml rfl rfl rfl (RG.nil ?_)))
       exact ⟨rfl, i + 1, ds, ⟨by omega, hld, fun j hj => hd j (by omega)⟩, ⟨rfl, trivial⟩, ⟨rfl, rfl, rfl, rfl, trivial⟩, Cv.p, by omega⟩
   · have h4 := of_decide_eq_false h4
     have hz : cs = zipB f (bits xs) (bits ys) := by
       have hzl := zipB_len (f := f) hlx hly
       apply List.ext_getElem?
       intro j
       by_cases hj : j < 6400
       · rw [getG (by omega), hc j (by omega), zipB_get (by omega) (by omega)]
       · rw [List.getElem?_eq_none (by omega), List.getElem?_eq_none (by omega)]
     rw [← hz] at k
     refine WP.exit ?_
     refine WP.seq (WP.region (RG.pv rfl (PV.mvP (.inl rfl) rfl) ?_))
     refine RG.callF (vs := [(.pointer (some ⟨b25, 0, none⟩))]) rfl rfl En85 rfl (CallT.exB (region_s hlc (fun v57 => ?_)))
     refine RG.pv rfl (PV.asg (v := v57) rfl rfl) (RG.nil ?_)
     refine WP.ret ?_
     exact ⟨_, _, ResV.one rfl rfl, Cv.p, k v57⟩
theorem inter1_s {p q : Bool} (k : R (.bool (p && q)) G L) : CallT Tryz.prog 138 #[.bool p, .bool q] G L R := by
 refine CallT.enter (args := _) Tryz.func138 rfl rfl (by kernel_rfl) rfl ?_
 refine WP.seq (WP.region (RG.br rfl rfl rfl (RG.nil (WP.seq (WP.region (RG.bl rfl rfl rfl (RG.bl rfl rfl rfl ?_)))))))
 refine RG.gs rfl rfl rfl (fun hp => (PV.mvB (.inl rfl) rfl)) ?_
 refine RG.pv rfl (PV.pickA rfl rfl (fun hq => gs_t (geqT hq)) rfl) (RG.br rfl rfl rfl (RG.nil ?_))
 refine WP.ret ?_
 exact ⟨_, _, ResV.one rfl rfl, Cv.p, k⟩
theorem diff1_s {p q : Bool} (k : R (.bool (p && !q)) G L) : CallT Tryz.prog 220 #[.bool p, .bool q] G L R := by
 refine CallT.enter (args := _) Tryz.func220 rfl rfl (by kernel_rfl) rfl ?_
 refine WP.seq (WP.region (RG.br rfl rfl rfl (RG.nil (WP.seq (WP.region (RG.bl rfl rfl rfl (RG.bl rfl rfl rfl ?_)))))))
 refine RG.gs rfl rfl rfl (fun hp => (PV.mvB (.inl rfl) rfl)) ?_
 refine RG.gs rfl rfl rfl (fun hp => (PV.not rfl (gs_t hp))) ?_
 refine RG.pv rfl (PV.pickA rfl rfl (fun hq => gs_t (geqT hq)) rfl) (RG.br rfl rfl rfl (RG.nil ?_))
 refine WP.ret ?_
 exact ⟨_, _, ResV.one rfl rfl, Cv.p, k⟩
theorem inter_s {v u : Value} {xs ys : List Rect} (h1 : Rs G L rectT v xs) (h2 : Rs G L rectT u ys) (k : ∀ v', R v' G (osl 140 rectT v' (opR (fun p q => p && q) xs ys) :: L)) : CallT Tryz.prog 88 #[v, u] G L R := by
 refine CallT.enter (args := _) Tryz.func88 rfl rfl (by kernel_rfl) rfl ?_
 refine WP.seq (WP.region (RG.pv rfl (PV.asg rfl rfl) (RG.nil (WP.seq (WP.region (RG.pv rfl (PV.move (v := v) rfl rfl) (RG.pv rfl (PV.move (v := u) rfl rfl) ?_)))))))
 refine RG.callF (vs := [v, u, _]) rfl rfl En137 rfl (combine_s (f := fun p q => p && q) (Rs.up h1) (Rs.up h2) (fun p q => CB.mk0 En138 fun L' R c k => inter1_s k) (fun v7 => ?_))
 refine RG.pv rfl (PV.asg (v := v7) rfl rfl) (RG.nil ?_)
 refine WP.ret ?_
 exact ⟨_, _, ResV.one rfl rfl, Cv.p, k v7⟩
theorem diff_s {v u : Value} {xs ys : List Rect} (h1 : Rs G L rectT v xs) (h2 : Rs G L rectT u ys) (k : ∀ v', R v' G (osl 140 rectT v' (opR (fun p q => p && !q) xs ys) :: L)) : CallT Tryz.prog 190 #[v, u] G L R := by
 refine CallT.enter (args := _) Tryz.func190 rfl rfl (by kernel_rfl) rfl ?_
 refine WP.seq (WP.region (RG.pv rfl (PV.asg rfl rfl) (RG.nil (WP.seq (WP.region (RG.pv rfl (PV.move (v := v) rfl rfl) (RG.pv rfl (PV.move (v := u) rfl rfl) ?_)))))))
 refine RG.callF (vs := [v, u, _]) rfl rfl En137 rfl (combine_s (f := fun p q => p && !q) (Rs.up h1) (Rs.up h2) (fun p q => CB.mk0 En220 fun L' R c k => diff1_s k) (fun v7 => ?_))
 refine RG.pv rfl (PV.asg (v := v7) rfl rfl) (RG.nil ?_)
 refine WP.ret ?_
 exact ⟨_, _, ResV.one rfl rfl, Cv.p, k v7⟩
end Go.Proofs.YthhjapiggekjbaaGreat
namespace Go.Proofs.YthhjapiggekjbaaGreat
set_option linter.unusedVariables false
set_option linter.unusedSimpArgs false
open Go
set_option maxRecDepth 20000
set_option linter.unusedSimpArgs false
variable {G : Gh} {L : List Ch} {R : Value → Gh → List Ch → Prop}
theorem WP.st {P : Program} {n : Nat} {c : Code} {Q : Post} {σ : Nat → Value} {A : Prop} (h : ∀ w, St G L w → A) (k : A → WP P n c Q σ G L) : WP P n c Q σ G L := WP.of fun hk _ w ha hs => (k (h w hs)).run hk ha hs
def lenS {α : Type} (s : Sl α) : Int := s.xs.length
end Go.Proofs.YthhjapiggekjbaaGreat
namespace Go.Proofs.YthhjapiggekjbaaGreat
set_option linter.unusedVariables false
set_option linter.unusedSimpArgs false
open Go
set_option maxRecDepth 20000
set_option linter.unusedSimpArgs false
variable {G : Gh} {L : List Ch} {R : Value → Gh → List Ch → Prop}
theorem canon_any {bs : List Bool} {y x : Nat} (hy : y < 80) (hx : x < 80) : ((canon bs).any fun r => inR r y x) = gb bs y x := by
 rw [canon, canonFrom_any bs 0 y x hy hx]; simp
theorem unionAll_s {v : Value} {xs : List (Sl Rect)} (h1 : Rs G L slT v xs) (hd : RsE G L rectT xs) (k : ∀ v', R v' G (osl 140 rectT v' (canon (bits (er xs).flatten)) :: L)) : CallT Tryz.prog 74 #[v] G L R := by
 refine CallT.bd h1 fun hb => ?_
 refine CallT.enter (args := _) Tryz.func74 rfl rfl (by kernel_rfl) rfl ?_
 refine WP.seq (WP.region (RG.pv rfl (PV.asg rfl rfl) (RG.nil (WP.seq (WP.region (RG.pv rfl (PV.build0 rfl Tryz.underlying148 ⟨80, by kernel_rfl⟩ (zeroB_spec (n := 6400) (by kernel_rfl))) ?_))))))
 refine RG.ot rfl (OT.boxG rfl rfl fun b9 => ?_)
 refine RG.pv rfl (PV.mvP (.inr rfl) rfl) (RG.nil (WP.seq (WP.seq (WP.region (RG.pv rfl (PV.move (v := v) rfl rfl) (RG.pv rfl (PV.len (v := v) rfl Tryz.underlying47 rfl (SlF.r h1)) (RG.ml rfl rfl rfl ?_)))))))
 refine RG.nil (WP.block ?_)
 refine WP.loop2 [3, 10, 11] (fun (i : Nat) (cs : List Bool) => i ≤ xs.length ∧ cs.length = 6400 ∧ ∀ y x, y < 80 → x < 80 → gb cs y x = (xs.take i).any fun s => s.xs.any fun r => inR r y x) (fun (i : Nat) (cs : List Bool) => [(12, vi i)]) (fun (i : Nat) (cs : List Bool) => grd b9 cs :: L) (fun (i : Nat) (cs : List Bool) => xs.length - i) 0 (List.replicate 6400 false) ⟨by omega, by simp, fun y x _ _ => by rw [gb_rep]; simp⟩ ⟨rfl, trivial⟩ Cv.p ?_
 rintro i cs τ ⟨hi, hl, hc⟩
 refine WP.seq (WP.region (RG.pv rfl (PV.lss rfl rfl rfl) (RG.nil (WP.seq ?_))))
 refine WP.cond rfl (fun h2 => ?_) (fun h2 => ?_)
 · have h2 := of_decide_eq_true h2
   have h3 : i < xs.length := by omega
   refine WP.bd (hd i h3) fun hb2 => ?_
   refine WP.skip (WP.seq (WP.block (WP.seq (WP.region (RG.pv rfl (PV.idxS (v := v) rfl Is47 rfl (SlF.r h1) rfl rfl (by omega)) (RG.pv rfl (PV.loadE1 rfl Sc50 rfl rfl (El.r h1 (getG (by omega))) rfl) (RG.pv rfl (PV.asg rfl rfl) ?_)))))))
   refine RG.nil (WP.seq (WP.region (RG.pv rfl (PV.move rfl rfl) (RG.pv rfl (PV.len rfl Tryz.underlying50 rfl (SlF.r (hd i h3))) (RG.ml rfl rfl rfl (RG.nil (WP.block ?_)))))))
   refine WP.loop2 [3, 10, 11, 12, 16, 17] (fun (j : Nat) (ds : List Bool) => j ≤ (gd xs i).xs.length ∧ ds.length = 6400 ∧ ∀ y x, y < 80 → x < 80 → gb ds y x = (gb cs y x || ((gd xs i).xs.take j).any fun r => inR r y x)) (fun (j : Nat) (ds : List Bool) => [(18, vi j)]) (fun (j : Nat) (ds : List Bool) => grd b9 ds :: L) (fun (j : Nat) (ds : List Bool) => (gd xs i).xs.length - j) 0 cs ⟨by omega, hl, fun y x _ _ => by simp⟩ ⟨rfl, trivial⟩ Cv.p ?_
   rintro j ds τ1 ⟨hj, hl2, hc2⟩
   refine WP.seq (WP.region (RG.pv rfl (PV.lss rfl rfl rfl) (RG.nil (WP.seq ?_))))
   refine WP.cond rfl (fun h4 => ?_) (fun h4 => ?_)
   · have h4 := of_decide_eq_true h4
     refine WP.skip (WP.seq (WP.block (WP.seq (WP.region (RG.pv rfl (PV.idxS rfl Is50 rfl (SlF.r (hd i h3)) rfl rfl (by omega)) (RG.pv rfl (PV.loadE rfl Ag140 rfl rfl (El.r (hd i h3) (getG (by omega)))) ?_))))))
     refine RG.ot rfl (OT.alloc rfl Zr140 fun b7 => ?_)
     refine RG.ot rfl (OT.storeW (vs := [vi _, vi _, vi _, vi _]) rfl Sz140 rfl rfl (Cl.c rfl) rfl rfl (OneC.c rfl) ?_)
     refine RG.nil (WP.region (RG.pv rfl (PV.mvP (.inl rfl) rfl) (RG.pv rfl (PV.loadW rfl Ag140 rfl rfl) ?_)))
     refine RG.callF (vs := [(.pointer (some ⟨b9, 0, none⟩)), _]) rfl rfl En84 rfl (CallT.exB (put_s (by assumption) (fun bs' hb' hg' => ?_)))
     refine RG.nil (WP.region (RG.pv rfl (PV.add rfl rfl rfl (by omega)) (RG.ml rfl rfl rfl (RG.nil ?_))))
     refine ⟨rfl, j + 1, bs', ⟨by omega, hb', fun y x h5 h6 => ?_⟩, ⟨rfl, trivial⟩, ⟨rfl, rfl, rfl, rfl, rfl, rfl, trivial⟩, Cv.p, by omega⟩
     rw [hg' y x h5 h6, hc2 y x h5 h6, List.take_add_one, getG (by omega), List.any_append, Bool.or_assoc]; simp
   · have h4 := of_decide_eq_false h4
     refine WP.exit ?_
     refine WP.region (RG.pv rfl (PV.add rfl rfl rfl (by omega)) (RG.ml rfl rfl rfl (RG.nil ?_)))
     refine ⟨rfl, i + 1, ds, ⟨by omega, hl2, fun y x h5 h6 => ?_⟩, ⟨rfl, trivial⟩, ⟨rfl, rfl, rfl, trivial⟩, Cv.p, by omega⟩
     rw [hc2 y x h5 h6, hc y x h5 h6, List.take_of_length_le (l := (gd xs i).xs) (by omega), List.take_add_one, getG h3, List.any_append]; simp
 · have h2 := of_decide_eq_false h2
   have e : cs = bits (er xs).flatten := bits_eq hl fun y x h5 h6 => by
     rw [hc y x h5 h6, List.take_of_length_le (by omega), List.any_flatten, er, List.any_map]; rfl
   subst e
   refine WP.exit ?_
   refine WP.seq (WP.region (RG.pv rfl (PV.mvP (.inl rfl) rfl) ?_))
   refine RG.callF (vs := [(.pointer (some ⟨b9, 0, none⟩))]) rfl rfl En85 rfl (CallT.exB (region_s (bits_length _) (fun v28 => ?_)))
   refine RG.pv rfl (PV.asg (v := v28) rfl rfl) (RG.nil ?_)
   refine WP.ret ?_
   exact ⟨_, _, ResV.one rfl rfl, Cv.p, k v28⟩
end Go.Proofs.YthhjapiggekjbaaGreat
namespace Go.Proofs.YthhjapiggekjbaaGreat
set_option linter.unusedVariables false
set_option linter.unusedSimpArgs false
/-- the number of cells of a set -/
def cnt (bs : List Bool) : Int := bs.count true
theorem cnt_le (bs : List Bool) : 0 ≤ cnt bs ∧ cnt bs ≤ bs.length := by
 have := List.count_le_length (a := true) (l := bs)
 simp only [cnt]; omega
end Go.Proofs.YthhjapiggekjbaaGreat
namespace Go.Proofs.YthhjapiggekjbaaGreat
set_option linter.unusedVariables false
set_option linter.unusedSimpArgs false
def inI (n lo hi : Int) : Bool := decide (lo ≤ n) && decide (n ≤ hi)
def hasC (bs : List Bool) (x y : Int) : Bool := inI x (-40) 39 && inI y (-40) 39 && gd bs ((y + 40) * 80 + x + 40).toNat
/-- a cell's neighbours along a row (ac) or a column -/
def cnd (ac : Bool) (bs : List Bool) (x y d : Int) : Bool := (ac && hasC bs (x + d) y) || (!ac && hasC bs x (y + d))
theorem gb_ext {az bs : List Bool} (h : az.length = 6400) (h' : bs.length = 6400) (hg : ∀ y x, y < 80 → x < 80 → gb az y x = gb bs y x) : az = bs := by
 apply List.ext_getElem?
 intro k
 by_cases hk : k < 6400
 · have h1 := hg (k / 80) (k % 80) (by omega) (by omega)
   have e : k / 80 * 80 + k % 80 = k := by omega
   rw [gb, gb, e] at h1
   rw [getG (by omega), getG (by omega), h1]
 · rw [List.getElem?_eq_none (by omega), List.getElem?_eq_none (by omega)]
theorem gb_bits' (rs : List Rect) {y x : Nat} (hy : y < 80) (hx : x < 80) : gb (bits rs) y x = rs.any fun r => inR r y x := by
 have h : y * 80 + x < 6400 := by omega
 have e1 : (y * 80 + x) / 80 = y := by omega
 have e2 : (y * 80 + x) % 80 = x := by omega
 rw [gb, gd_eq (by rw [bits_length]; exact h)]
 simp [bits, e1, e2]
end Go.Proofs.YthhjapiggekjbaaGreat
namespace Go.Proofs.YthhjapiggekjbaaGreat
set_option linter.unusedVariables false
set_option linter.unusedSimpArgs false
abbrev Cel := Nat × Nat
def Adj (a b : Cel) : Prop := (a.1 = b.1 ∧ (a.2 = b.2 + 1 ∨ b.2 = a.2 + 1)) ∨ (a.2 = b.2 ∧ (a.1 = b.1 + 1 ∨ b.1 = a.1 + 1))
theorem Adj.symm {a b : Cel} (h : Adj a b) : Adj b a := by
 rcases h with ⟨h1, h2⟩ | ⟨h1, h2⟩
 · exact .inl ⟨h1.symm, h2.symm⟩
 · exact .inr ⟨h1.symm, h2.symm⟩
/-- the cell is on the chip and set -/
def On (S : List Bool) (a : Cel) : Prop := a.1 < 80 ∧ a.2 < 80 ∧ gb S a.1 a.2 = true
inductive Conn (S : List Bool) (a : Cel) : Cel → Prop where
  | refl : Conn S a a
  | step {b c : Cel} : Conn S a b → Adj b c → On S c → Conn S a c
theorem Conn.on {S : List Bool} {a b : Cel} (h : Conn S a b) (ha : On S a) : On S b := by
 cases h with
 | refl => exact ha
 | step _ _ h => exact h
theorem Conn.trans {S : List Bool} {a b c : Cel} (h : Conn S a b) (k : Conn S b c) : Conn S a c := by
 induction k with
 | refl => exact h
 | step _ h1 h2 ih => exact ih.step h1 h2
theorem Conn.symm {S : List Bool} {a b : Cel} (h : Conn S a b) (ha : On S a) : Conn S b a := by
 induction h with
 | refl => exact .refl
 | step h1 h2 h3 ih => exact (Conn.step .refl h2.symm (h1.on ha)).trans ih
/-- a set that is closed under the neighbours of another, within it -/
theorem Conn.sub {S T : List Bool} {a b : Cel} (h : Conn S a b) (ha : On T a) (hc : ∀ p q, On T p → Adj p q → On S q → On T q) : Conn T a b ∧ On T b := by
 induction h with
 | refl => exact ⟨.refl, ha⟩
 | step h1 h2 h3 ih =>
   have := hc _ _ ih.2 h2 h3
   exact ⟨ih.1.step h2 this, this⟩
theorem Conn.mono {S T : List Bool} {a b : Cel} (h : Conn T a b) (hc : ∀ p, On T p → On S p) : Conn S a b := by
 induction h with
 | refl => exact .refl
 | step h1 h2 h3 ih => exact ih.step h2 (hc _ h3)
open Classical in
noncomputable def compB (S : List Bool) (a : Cel) : List Bool := (List.range 6400).map fun j => decide (Conn S a (j / 80, j % 80))
theorem compB_len (S : List Bool) (a : Cel) : (compB S a).length = 6400 := by simp [compB]
open Classical in
theorem gb_comp {S : List Bool} {a : Cel} {y x : Nat} (hy : y < 80) (hx : x < 80) : gb (compB S a) y x = decide (Conn S a (y, x)) := by
 have h : y * 80 + x < 6400 := by omega
 have e1 : (y * 80 + x) / 80 = y := by omega
 have e2 : (y * 80 + x) % 80 = x := by omega
 rw [gb, gd_eq (by rw [compB_len]; exact h)]
 simp [compB, e1, e2]
theorem comp_iff {S : List Bool} {a : Cel} {y x : Nat} (hy : y < 80) (hx : x < 80) : gb (compB S a) y x = true ↔ Conn S a (y, x) := by
 rw [gb_comp hy hx]; simp
/-- a set that holds the seed, is connected with it and closed, is its component -/
theorem comp_of {S out : List Bool} {a : Cel} (hl : out.length = 6400) (ha : On S a) (ho : On out a) (hconn : ∀ b, On out b → Conn S a b) (hcl : ∀ b c, On out b → Adj b c → On S c → On out c) : out = compB S a := by
 refine gb_ext hl (compB_len _ _) fun y x hy hx => ?_
 rw [Bool.eq_iff_iff, comp_iff hy hx]
 constructor
 · intro h; exact hconn (y, x) ⟨hy, hx, h⟩
 · intro h
   exact (h.sub ho hcl).2.2.2
def pos (a : Cel) : Nat := a.1 * 80 + a.2
def cel (j : Nat) : Cel := (j / 80, j % 80)
theorem cel_pos {a : Cel} (h : a.2 < 80) : cel (pos a) = a := by
 obtain ⟨y, x⟩ := a
 simp only [cel, pos, Prod.mk.injEq] at *
 omega
/-- the cell comes first in its component -/
def First (S : List Bool) (j : Nat) : Prop := On S (cel j) ∧ ∀ i, i < j → On S (cel i) → ¬ Conn S (cel i) (cel j)
open Classical in
noncomputable def firsts (S : List Bool) (n : Nat) : List Nat := (List.range n).filter fun j => decide (First S j)
noncomputable def comps (S : List Bool) : List (List Bool) := (firsts S 6400).map fun j => compB S (cel j)
open Classical in
theorem firsts_succ (S : List Bool) (n : Nat) : firsts S (n + 1) = if First S n then firsts S n ++ [n] else firsts S n := by
 rw [firsts, List.range_succ, List.filter_append]
 by_cases h : First S n <;> simp [h, firsts]
/-- what is left before the n-th cell is looked at -/
def Left (S : List Bool) (n : Nat) (a : Cel) : Prop := On S a ∧ ∀ i, i < n → On S (cel i) → ¬ Conn S (cel i) a
theorem left_zero {S : List Bool} {a : Cel} : Left S 0 a ↔ On S a := ⟨fun h => h.1, fun h => ⟨h, fun i hi => by omega⟩⟩
theorem left_first {S : List Bool} {n : Nat} : Left S n (cel n) ↔ First S n := Iff.rfl
theorem left_closed {S : List Bool} {n : Nat} {p q : Cel} (h : Left S n p) (ha : Adj p q) (hq : On S q) : Left S n q :=
 ⟨hq, fun i hi ho hc => h.2 i hi ho (hc.step ha.symm h.1)⟩
/-- the component within what is left is the component -/
theorem comp_left {S T : List Bool} {n : Nat} (hT : ∀ a : Cel, On T a ↔ Left S n a) {a : Cel} (ha : Left S n a) : compB T a = compB S a := by
 refine comp_of (compB_len _ _) ha.1 ⟨((hT a).2 ha).1, ((hT a).2 ha).2.1, (comp_iff ((hT a).2 ha).1 ((hT a).2 ha).2.1).2 .refl⟩ (fun b hb => ?_) (fun b c hb hbc hc => ?_)
 · exact ((comp_iff hb.1 hb.2.1).1 hb.2.2).mono fun p hp => ((hT p).1 hp).1
 · have h1 := (comp_iff hb.1 hb.2.1).1 hb.2.2
   have h2 := h1.on ((hT a).2 ha)
   have h3 := left_closed ((hT _).1 h2) hbc hc
   exact ⟨hc.1, hc.2.1, (comp_iff hc.1 hc.2.1).2 (h1.step hbc ((hT c).2 h3))⟩
theorem left_succ_skip {S : List Bool} {n : Nat} (h : ¬ First S n) {a : Cel} : Left S (n + 1) a ↔ Left S n a := by
 constructor
 · exact fun k => ⟨k.1, fun i hi => k.2 i (by omega)⟩
 · intro k
   refine ⟨k.1, fun i hi ho hc => ?_⟩
   by_cases e : i = n
   · subst e
     apply h
     exact ⟨ho, fun j hj hoj hcj => k.2 j hj hoj (hcj.trans hc)⟩
   · exact k.2 i (by omega) ho hc
theorem left_succ_take {S : List Bool} {n : Nat} (h : First S n) {a : Cel} : Left S (n + 1) a ↔ Left S n a ∧ ¬ Conn S (cel n) a := by
 constructor
 · exact fun k => ⟨⟨k.1, fun i hi => k.2 i (by omega)⟩, k.2 n (by omega) h.1⟩
 · rintro ⟨k, hn⟩
   refine ⟨k.1, fun i hi ho hc => ?_⟩
   by_cases e : i = n
   · subst e; exact hn hc
   · exact k.2 i (by omega) ho hc
end Go.Proofs.YthhjapiggekjbaaGreat
namespace Go.Proofs.YthhjapiggekjbaaGreat
set_option linter.unusedVariables false
set_option linter.unusedSimpArgs false
def qc (q : Int × Int) : Cel := (q.2.toNat, q.1.toNat)
structure FI (S : List Bool) (a : Cel) (O : List Bool) (Q : List (Int × Int)) : Prop where
  len : O.length = 6400
  bd : ∀ i, i < Q.length → 0 ≤ (gd Q i).1 ∧ (gd Q i).1 < 80 ∧ 0 ≤ (gd Q i).2 ∧ (gd Q i).2 < 80
  on : ∀ i, i < Q.length → On O (qc (gd Q i))
  all : ∀ c, On O c → ∃ i, i < Q.length ∧ qc (gd Q i) = c
  conn : ∀ i, i < Q.length → Conn S a (qc (gd Q i))
  cnt : cnt O = Q.length
theorem gd_app_l {α : Type} [Inhabited α] {xs ys : List α} {i : Nat} (h : i < xs.length) : gd (xs ++ ys) i = gd xs i := by
 simp only [gd, List.getElem?_append_left h]
theorem gd_app_r {α : Type} [Inhabited α] {xs : List α} {a : α} : gd (xs ++ [a]) xs.length = a := by
 simp [gd]
theorem gb_set' {bs : List Bool} {y x y' x' : Nat} {q : Bool} (h : bs.length = 6400) (hy : y < 80) (hx : x < 80) (hx' : x' < 80) : gb (bs.set (y * 80 + x) q) y' x' = if y' = y ∧ x' = x then q else gb bs y' x' := by
 unfold gb gd
 rw [List.getElem?_set]
 by_cases e : y * 80 + x = y' * 80 + x'
 · have e1 : y' = y ∧ x' = x := by omega
   rw [if_pos e, if_pos e1, if_pos (by omega)]; rfl
 · have e1 : ¬ (y' = y ∧ x' = x) := by omega
   rw [if_neg e, if_neg e1]
theorem cnt_set {bs : List Bool} {k : Nat} (h : k < bs.length) (hk : gd bs k = false) : cnt (bs.set k true) = cnt bs + 1 := by
 have e1 : bs.set k true = bs.take k ++ true :: bs.drop (k + 1) := by rw [List.set_eq_take_append_cons_drop, if_pos h]
 have e2 : bs = bs.take k ++ false :: bs.drop (k + 1) := by
   rw [gd_eq h] at hk
   conv => lhs; rw [← List.take_append_drop k bs, List.drop_eq_getElem_cons h, hk]
 have h1 : cnt (bs.set k true) = (((bs.take k).count true + (bs.drop (k + 1)).count true + 1 : Nat) : Int) := by
   rw [cnt, e1, List.count_append, List.count_cons]; simp; omega
 have h2 : cnt bs = (((bs.take k).count true + (bs.drop (k + 1)).count true : Nat) : Int) := by
   rw [cnt]; conv => lhs; rw [e2, List.count_append, List.count_cons]
   simp
 rw [h1, h2]; omega
theorem FI.len_le {S O : List Bool} {a : Cel} {Q : List (Int × Int)} (h : FI S a O Q) : Q.length ≤ 6400 := by
 have h1 := h.cnt; have h2 := cnt_le O; rw [h.len] at h2; omega
theorem FI.add {S O : List Bool} {a : Cel} {Q : List (Int × Int)} (h : FI S a O Q) {x y : Int} (hx : 0 ≤ x ∧ x < 80) (hy : 0 ≤ y ∧ y < 80) (hO : gb O y.toNat x.toNat = false) (hS : gb S y.toNat x.toNat = true) {i : Nat} (hi : i < Q.length) (ha : Adj (qc (gd Q i)) (y.toNat, x.toNat)) :
   FI S a (O.set (y.toNat * 80 + x.toNat) true) (Q ++ [(x, y)]) := by
 have hk : y.toNat * 80 + x.toNat < O.length := by rw [h.len]; omega
 have hg : ∀ c : Cel, c.2 < 80 → gb (O.set (y.toNat * 80 + x.toNat) true) c.1 c.2 = if c.1 = y.toNat ∧ c.2 = x.toNat then true else gb O c.1 c.2 := fun c hc => gb_set' h.len (by omega) (by omega) hc
 refine ⟨by simpa using h.len, fun j hj => ?_, fun j hj => ?_, fun c hc => ?_, fun j hj => ?_, ?_⟩
 · by_cases e : j < Q.length
   · rw [gd_app_l e]; exact h.bd j e
   · have : j = Q.length := by simp at hj; omega
     rw [this, gd_app_r]; exact ⟨hx.1, hx.2, hy.1, hy.2⟩
 · by_cases e : j < Q.length
   · rw [gd_app_l e]
     have := h.on j e
     refine ⟨this.1, this.2.1, ?_⟩
     rw [hg _ this.2.1]; split
     · rfl
     · exact this.2.2
   · have : j = Q.length := by simp at hj; omega
     rw [this, gd_app_r]
     refine ⟨by simp only [qc]; omega, by simp only [qc]; omega, ?_⟩
     rw [hg _ (by simp only [qc]; omega), if_pos ⟨rfl, rfl⟩]
 · have := hc.2.2
   rw [hg c hc.2.1] at this
   by_cases e : c.1 = y.toNat ∧ c.2 = x.toNat
   · refine ⟨Q.length, by simp, ?_⟩
     rw [gd_app_r]
     obtain ⟨c1, c2⟩ := c
     simp only at e
     simp [qc, e.1, e.2]
   · rw [if_neg e] at this
     obtain ⟨j, hj, he⟩ := h.all c ⟨hc.1, hc.2.1, this⟩
     exact ⟨j, by simp; omega, by rw [gd_app_l hj]; exact he⟩
 · by_cases e : j < Q.length
   · rw [gd_app_l e]; exact h.conn j e
   · have : j = Q.length := by simp at hj; omega
     rw [this, gd_app_r]
     exact (h.conn i hi).step ha ⟨by simp only [qc]; omega, by simp only [qc]; omega, hS⟩
 · rw [cnt_set hk (by rw [gb] at hO; exact hO), h.cnt]; simp
theorem gb_rep' (y x : Nat) : gb (List.replicate 6400 false) y x = false := by
 unfold gb gd
 rw [List.getElem?_replicate]; split <;> rfl
theorem FI.start {S : List Bool} {x y : Int} (hx : 0 ≤ x ∧ x < 80) (hy : 0 ≤ y ∧ y < 80) : FI S (y.toNat, x.toNat) ((List.replicate 6400 false).set (y.toNat * 80 + x.toNat) true) [(x, y)] := by
 have hl : (List.replicate 6400 false).length = 6400 := List.length_replicate
 have hg : ∀ c : Cel, c.2 < 80 → gb ((List.replicate 6400 false).set (y.toNat * 80 + x.toNat) true) c.1 c.2 = if c.1 = y.toNat ∧ c.2 = x.toNat then true else false := fun c hc => by
   rw [gb_set' hl (by omega) (by omega) hc, gb_rep']
 have hg0 : gd [(x, y)] 0 = (x, y) := by simp [gd]
 have one : ∀ i, i < [(x, y)].length → i = 0 := fun i hi => by simpa using hi
 refine ⟨by rw [List.length_set, hl], fun i hi => ?_, fun i hi => ?_, fun c hc => ?_, fun i hi => ?_, ?_⟩
 · rw [one i hi, hg0]; exact ⟨hx.1, hx.2, hy.1, hy.2⟩
 · rw [one i hi, hg0]
   refine ⟨by simp [qc]; omega, by simp [qc]; omega, ?_⟩
   rw [hg _ (by simp [qc]; omega)]; simp [qc]
 · have := hc.2.2
   rw [hg c hc.2.1] at this
   have e : c.1 = y.toNat ∧ c.2 = x.toNat := by
     by_cases e : c.1 = y.toNat ∧ c.2 = x.toNat
     · exact e
     · rw [if_neg e] at this; cases this
   refine ⟨0, by simp, ?_⟩
   rw [hg0]
   obtain ⟨c1, c2⟩ := c
   simp only at e
   simp [qc, e.1, e.2]
 · rw [one i hi, hg0]; exact .refl
 · rw [cnt_set (by rw [hl]; omega) (by have := gb_rep' y.toNat x.toNat; rwa [gb] at this)]
   have : Go.Proofs.YthhjapiggekjbaaGreat.cnt (List.replicate 6400 false) = 0 := by
     rw [Go.Proofs.YthhjapiggekjbaaGreat.cnt, List.count_replicate]; rfl
   rw [this]; simp
/-- the cells of the queue before i have no neighbour that is missing -/
def Done (S O : List Bool) (Q : List (Int × Int)) (i : Nat) : Prop := ∀ m, m < i → ∀ c, Adj (qc (gd Q m)) c → On S c → On O c
/-- of the neighbours of p, those that come before (dy, dx) are there -/
def Near (S O : List Bool) (p : Cel) (dy dx : Int) : Prop := ∀ c : Cel, Adj p c → On S c → ((c.1 : Int) - p.1 < dy ∨ ((c.1 : Int) - p.1 = dy ∧ (c.2 : Int) - p.2 < dx)) → On O c
theorem Near.zero (S O : List Bool) (p : Cel) : Near S O p (-1) (-1) := fun c ha _ h => by
 rcases ha with ⟨h1, h2⟩ | ⟨h1, h2⟩ <;> omega
theorem Near.next {S O : List Bool} {p : Cel} {dy : Int} (h : Near S O p dy 2) : Near S O p (dy + 1) (-1) := fun c ha hs hc => by
 refine h c ha hs ?_
 rcases ha with ⟨h1, h2⟩ | ⟨h1, h2⟩ <;> omega
theorem Near.done {S O : List Bool} {p : Cel} (h : Near S O p 2 (-1)) : ∀ c, Adj p c → On S c → On O c := fun c ha hs => by
 refine h c ha hs ?_
 rcases ha with ⟨h1, h2⟩ | ⟨h1, h2⟩ <;> omega
theorem Near.step {S O O' : List Bool} {p : Cel} {dy dx : Int} (h : Near S O p dy dx) (hO : ∀ c, On O c → On O' c) (hn : ∀ c : Cel, Adj p c → On S c → (c.1 : Int) - p.1 = dy → (c.2 : Int) - p.2 = dx → On O' c) : Near S O' p dy (dx + 1) := fun c ha hs hc => by
 by_cases e : (c.1 : Int) - p.1 = dy ∧ (c.2 : Int) - p.2 = dx
 · exact hn c ha hs e.1 e.2
 · exact hO c (h c ha hs (by omega))
theorem FI.final {S O : List Bool} {a : Cel} {Q : List (Int × Int)} (h : FI S a O Q) (ha : On S a) (h0 : On O a) (hd : Done S O Q Q.length) : O = compB S a :=
 comp_of h.len ha h0 (fun b hb => by obtain ⟨i, hi, rfl⟩ := h.all b hb; exact h.conn i hi) fun b c hb hbc hc => by
   obtain ⟨i, hi, rfl⟩ := h.all b hb
   exact hd i hi c hbc hc
theorem on_set {O : List Bool} {x y : Int} (hl : O.length = 6400) (hx : 0 ≤ x ∧ x < 80) (hy : 0 ≤ y ∧ y < 80) {c : Cel} (h : On O c) : On (O.set (y.toNat * 80 + x.toNat) true) c := by
 refine ⟨h.1, h.2.1, ?_⟩
 rw [gb_set' hl (by omega) (by omega) h.2.1]; split
 · rfl
 · exact h.2.2
end Go.Proofs.YthhjapiggekjbaaGreat
namespace Go.Proofs.YthhjapiggekjbaaGreat
set_option linter.unusedVariables false
set_option linter.unusedSimpArgs false
open Go
set_option maxRecDepth 20000
set_option linter.unusedSimpArgs false
variable {G : Gh} {L : List Ch} {R : Value → Gh → List Ch → Prop}
theorem Cv.cast {L L' : List Ch} (h : L = L') : Cv L L' := by subst h; exact Cv.refl _
theorem WP.loop4 {P : Program} {n : Nat} {Q : Post} {σ : Nat → Value} {G : Gh} {L : List Ch} {c : Code} (keep : List Nat) {A B D E : Type} (J : A → B → D → E → Prop) (S : A → B → D → E → List (Nat × Value)) (C : A → B → D → E → List Ch) (μ : A → B → D → E → Nat) (a0 : A) (b0 : B) (d0 : D) (e0 : E) (j0 : J a0 b0 d0 e0) (h0 : HasV σ (S a0 b0 d0 e0)) (p0 : Cv L (C a0 b0 d0 e0))
   (round : ∀ a b d e τ, J a b d e → WP P n c (thenP (fun σ' G' L' => G' = G ∧ ∃ a' b' d' e', J a' b' d' e' ∧ HasV σ' (S a' b' d' e') ∧ Keeps σ' σ keep ∧ Cv L' (C a' b' d' e') ∧ μ a' b' d' e' < μ a b d e) Q) (upds (updk τ σ keep) (S a b d e)) G (C a b d e)) : WP P n (.loop c) Q σ G L :=
 WP.loop0 keep (A := A × B × D × E) (fun x => J x.1 x.2.1 x.2.2.1 x.2.2.2) (fun x => S x.1 x.2.1 x.2.2.1 x.2.2.2) (fun x => C x.1 x.2.1 x.2.2.1 x.2.2.2) (fun x => μ x.1 x.2.1 x.2.2.1 x.2.2.2) (a0, b0, d0, e0) j0 h0 p0 fun x τ j =>
   WP.mono (round x.1 x.2.1 x.2.2.1 x.2.2.2 τ j) fun e σ G L hq => by
     cases e with
     | normal => obtain ⟨e, a', b', d', e', h⟩ := hq; exact ⟨e, (a', b', d', e'), h⟩
     | _ => exact hq
theorem Cv.grd {b y x : Nat} {O : List Bool} {q : Bool} {L : List Ch} : Cv (Go.Proofs.YthhjapiggekjbaaGreat.grd b (O.set (0 + y * 80 + x * 1) q) :: L) (Go.Proofs.YthhjapiggekjbaaGreat.grd b (O.set (y * 80 + x) q) :: L) := Cv.cast (by rw [show 0 + y * 80 + x * 1 = y * 80 + x by omega])
theorem gd_gb {B : List Bool} {a b : Nat} : gd B (0 + a * 80 + b * 1) = gb B a b := by rw [gb]; congr 1; omega
theorem Done.add {S O O' : List Bool} {Q : List (Int × Int)} {i : Nat} {q : Int × Int} (h : Done S O Q i) (hi : i < Q.length) (hO : ∀ c, On O c → On O' c) : Done S O' (Q ++ [q]) i := fun m hm c ha hs => by
 rw [gd_app_l (by omega)] at ha; exact hO c (h m hm c ha hs)
theorem Done.next {S O : List Bool} {Q : List (Int × Int)} {i : Nat} {p : Cel} (h : Done S O Q i) (hp : qc (gd Q i) = p) (hn : Near S O p 2 (-1)) : Done S O Q (i + 1) := fun m hm c ha hs => by
 by_cases e : m = i
 · subst e; rw [hp] at ha; exact hn.done c ha hs
 · exact h m (by omega) c ha hs
theorem Near.skip {S O : List Bool} {q : Int × Int} {dy dx : Int} (h : Near S O (qc q) dy dx) (hb : 0 ≤ q.1 ∧ q.1 < 80 ∧ 0 ≤ q.2 ∧ q.2 < 80) (hc : (dx ≠ 0 ∧ dy ≠ 0) ∨ q.1 + dx < 0 ∨ q.2 + dy < 0 ∨ q.1 + dx ≥ 80 ∨ q.2 + dy ≥ 80 ∨ gb S (q.2 + dy).toNat (q.1 + dx).toNat = false ∨ gb O (q.2 + dy).toNat (q.1 + dx).toNat = true) : Near S O (qc q) dy (dx + 1) :=
 h.step (fun _ h => h) fun c ha hs e1 e2 => by
   obtain ⟨c1, c2⟩ := c
   obtain ⟨h1, h2, h3⟩ := hs
   simp only [qc, Adj] at *
   have e3 : c1 = (q.2 + dy).toNat := by omega
   have e4 : c2 = (q.1 + dx).toNat := by omega
   rcases hc with k | k | k | k | k | k | k
   · omega
   · omega
   · omega
   · omega
   · omega
   · rw [← e3, ← e4, h3] at k; cases k
   · exact ⟨h1, h2, by rw [e3, e4]; exact k⟩
theorem Near.take {S O : List Bool} {q : Int × Int} {dy dx : Int} (h : Near S O (qc q) dy dx) (hl : O.length = 6400) (hb : 0 ≤ q.1 ∧ q.1 < 80 ∧ 0 ≤ q.2 ∧ q.2 < 80) (hx : 0 ≤ q.1 + dx ∧ q.1 + dx < 80) (hy : 0 ≤ q.2 + dy ∧ q.2 + dy < 80) : Near S (O.set ((q.2 + dy).toNat * 80 + (q.1 + dx).toNat) true) (qc q) dy (dx + 1) :=
 h.step (fun c hc => on_set hl hx hy hc) fun c ha hs e1 e2 => by
   obtain ⟨c1, c2⟩ := c
   obtain ⟨h1, h2, h3⟩ := hs
   simp only [qc, Adj] at *
   have e3 : c1 = (q.2 + dy).toNat := by omega
   have e4 : c2 = (q.1 + dx).toNat := by omega
   refine ⟨h1, h2, ?_⟩
   rw [gb_set' hl (by omega) (by omega) h2, if_pos ⟨e3, e4⟩]
theorem adj_near {q : Int × Int} {dy dx : Int} (hb : 0 ≤ q.1 ∧ q.1 < 80 ∧ 0 ≤ q.2 ∧ q.2 < 80) (hd : (-1 ≤ dy ∧ dy ≤ 1) ∧ (-1 ≤ dx ∧ dx ≤ 1)) (hn : dx = 0 ∨ dy = 0) (h0 : ¬ (dx = 0 ∧ dy = 0)) (hx : 0 ≤ q.1 + dx) (hy : 0 ≤ q.2 + dy) : Adj (qc q) ((q.2 + dy).toNat, (q.1 + dx).toNat) := by
 simp only [qc, Adj]; omega
theorem flood_s {b : Nat} {S : List Bool} {x y : Int} (hS : S.length = 6400) (hx : 0 ≤ x ∧ x < 80) (hy : 0 ≤ y ∧ y < 80) (hon : gb S y.toNat x.toNat = true) (k : ∀ b', R (.pointer (some ⟨b', 0, none⟩)) G (grd b' (compB S (y.toNat, x.toNat)) :: grd b S :: L)) :
   CallT Tryz.prog 169 #[.pointer (some ⟨b, 0, none⟩), vi x, vi y, .bool false] G (grd b S :: L) R := by
 have hst := FI.start (S := S) hx hy
 have hseed : On S (y.toNat, x.toNat) := ⟨by simp only; omega, by simp only; omega, hon⟩
 refine CallT.enter (args := _) Tryz.func169 rfl rfl (by kernel_rfl) rfl ?_
 refine WP.seq (WP.region (RG.pv rfl (PV.asg rfl rfl) (RG.nil (WP.seq (WP.region (RG.pv rfl (PV.build0 rfl Tryz.underlying148 ⟨80, by kernel_rfl⟩ (zeroB_spec (n := 6400) (by kernel_rfl))) ?_))))))
 refine RG.ot rfl (OT.boxG rfl rfl fun b17 => ?_)
 refine RG.pv rfl (PV.mvP (.inr rfl) rfl) (RG.nil (WP.seq (WP.region (RG.pv rfl (PV.mvP (.inl rfl) rfl) (RG.ml rfl rfl rfl (RG.ml rfl rfl rfl (RG.pv rfl (PV.nilc rfl rfl) ?_)))))))
 refine RG.pv rfl (PV.idxA (j := y.toNat) rfl Ia148 rfl rfl (by omega) (by omega)) (RG.pv rfl (PV.idxA (j := x.toNat) rfl Ia146 rfl rfl (by omega) (by omega)) ?_)
 refine RG.ot rfl (OT.storeGr rfl Sz4 rfl rfl rfl (by first | omega | (simp; omega)) ?_)
 refine RG.nil (WP.seq (WP.region (RG.ml rfl rfl rfl (RG.ml rfl rfl rfl (RG.pv rfl (PV.buildA (F := intT) (az := [_, _]) rfl Tryz.underlying275 (by kernel_rfl) ⟨rfl, (Cl.c rfl), ⟨rfl, (Cl.c rfl), trivial⟩⟩) ?_)))))
 refine RG.ot rfl (OT.bslice (F := prT) (els := [⟨_, _⟩]) rfl El276 rfl (by decide) rfl (by decide) ⟨rfl, (Cl.c rfl), trivial⟩ fun v27 => ?_)
 refine RG.pv rfl (PV.asg (v := v27) rfl rfl) (RG.nil (WP.seq (WP.seq (WP.region (RG.mr rfl rfl rfl (RG.nil (WP.block ?_)))))))
 refine WP.cv ((Cv.p (C := grd b17 ((List.replicate 6400 false).set (0 + y.toNat * 80 + x.toNat * 1) true) :: osl 275 prT v27 [(x, y)] :: grd b S :: L)).trans Cv.grd) ?_
 refine WP.loop4 [0, 3, 9] (fun (i : Nat) (Q : List (Int × Int)) (O : List Bool) (qv : Value) => i ≤ Q.length ∧ FI S (y.toNat, x.toNat) O Q ∧ Done S O Q i ∧ On O (y.toNat, x.toNat)) (fun (i : Nat) (Q : List (Int × Int)) (O : List Bool) (qv : Value) => [(11, vi i), (10, qv)]) (fun (i : Nat) (Q : List (Int × Int)) (O : List Bool) (qv : Value) => grd b17 O :: osl 275 prT qv Q :: grd b S :: L) (fun (i : Nat) (Q : List (Int × Int)) (O : List Bool) (qv : Value) => 6401 - i) 0 [(x, y)] ((List.replicate 6400 false).set (y.toNat * 80 + x.toNat) true) v27 ⟨by simp, hst, fun m hm => by omega, by have := hst.on 0 (by simp); simpa [gd, qc] using this⟩ ⟨rfl, rfl, trivial⟩ Cv.p ?_
 rintro i Q O qv τ ⟨hi, hF, hD, h0⟩
 refine WP.seq (WP.seq (WP.region (RG.ml rfl rfl rfl (RG.pv rfl (PV.move (v := qv) rfl rfl) (RG.pv rfl (PV.len (v := qv) rfl Tryz.underlying276 rfl SlF.o) (RG.pv rfl (PV.lss rfl rfl rfl) (RG.nil ?_)))))))
 refine WP.cond rfl (fun h2 => ?_) (fun h2 => ?_)
 · have h2 := of_decide_eq_true h2
   have hQ := hF.len_le
   have hb := hF.bd i (by omega)
   refine WP.skip (WP.seq (WP.block (WP.seq (WP.region (RG.mr rfl rfl rfl (RG.nil (WP.block ?_)))))))
   refine WP.loop4 [0, 3, 9, 11] (fun (dy : Int) (Q1 : List (Int × Int)) (O1 : List Bool) (qv1 : Value) => (-1 ≤ dy ∧ dy ≤ 2) ∧ FI S (y.toNat, x.toNat) O1 Q1 ∧ Done S O1 Q1 i ∧ On O1 (y.toNat, x.toNat) ∧ i < Q1.length ∧ gd Q1 i = gd Q i ∧ Near S O1 (qc (gd Q i)) dy (-1)) (fun (dy : Int) (Q1 : List (Int × Int)) (O1 : List Bool) (qv1 : Value) => [(12, vi dy), (10, qv1)]) (fun (dy : Int) (Q1 : List (Int × Int)) (O1 : List Bool) (qv1 : Value) => grd b17 O1 :: osl 275 prT qv1 Q1 :: grd b S :: L) (fun (dy : Int) (Q1 : List (Int × Int)) (O1 : List Bool) (qv1 : Value) => (2 - dy).toNat) (-1) Q O qv ⟨by omega, hF, hD, h0, by omega, rfl, Near.zero _ _ _⟩ ⟨rfl, rfl, trivial⟩ Cv.p ?_
   rintro dy Q1 O1 qv1 τ1 ⟨⟨hy1, hy2⟩, hF1, hD1, h01, hi1, hq1, hN1⟩
   refine WP.seq (WP.seq (WP.region (RG.ml rfl rfl rfl (RG.pv rfl (PV.leq rfl rfl rfl) (RG.nil ?_)))))
   refine WP.cond rfl (fun h3 => ?_) (fun h3 => ?_)
   · have h3 := of_decide_eq_true h3
     refine WP.skip (WP.seq (WP.block (WP.seq (WP.region (RG.mr rfl rfl rfl (RG.nil (WP.block ?_)))))))
     refine WP.loop4 [0, 3, 9, 11, 12] (fun (dx : Int) (Q2 : List (Int × Int)) (O2 : List Bool) (qv2 : Value) => (-1 ≤ dx ∧ dx ≤ 2) ∧ FI S (y.toNat, x.toNat) O2 Q2 ∧ Done S O2 Q2 i ∧ On O2 (y.toNat, x.toNat) ∧ i < Q2.length ∧ gd Q2 i = gd Q i ∧ Near S O2 (qc (gd Q i)) dy dx) (fun (dx : Int) (Q2 : List (Int × Int)) (O2 : List Bool) (qv2 : Value) => [(13, vi dx), (10, qv2)]) (fun (dx : Int) (Q2 : List (Int × Int)) (O2 : List Bool) (qv2 : Value) => grd b17 O2 :: osl 275 prT qv2 Q2 :: grd b S :: L) (fun (dx : Int) (Q2 : List (Int × Int)) (O2 : List Bool) (qv2 : Value) => (2 - dx).toNat) (-1) Q1 O1 qv1 ⟨by omega, hF1, hD1, h01, hi1, hq1, hN1⟩ ⟨rfl, rfl, trivial⟩ Cv.p ?_
     rintro dx Q2 O2 qv2 τ2 ⟨⟨hx1, hx2⟩, hF2, hD2, h02, hi2, hq2, hN2⟩
     refine WP.seq (WP.seq (WP.region (RG.ml rfl rfl rfl (RG.pv rfl (PV.leq rfl rfl rfl) (RG.nil ?_)))))
     refine WP.cond rfl (fun h4 => ?_) (fun h4 => ?_)
     · have h4 := of_decide_eq_true h4
       have hl2 := hF2.len
       have hQ2 := hF2.len_le
       have hb2 : 0 ≤ (gd Q2 i).1 ∧ (gd Q2 i).1 < 80 ∧ 0 ≤ (gd Q2 i).2 ∧ (gd Q2 i).2 < 80 := by rw [hq2]; exact hb
       refine WP.skip (WP.seq (WP.block (WP.seq ?_)))
       refine WP.regionQ (by kernel_rfl) (by kernel_rfl) ?_
       refine RQ.pv rfl (PV.move (v := qv2) rfl rfl) ?_
       refine RQ.pv rfl (PV.mvI (.inl rfl) rfl) ?_
       refine RQ.pv rfl (PV.idxS (j := i) (v := qv2) rfl Is276 rfl SlF.o rfl (by omega) (by omega)) ?_
       refine RQ.pv rfl (PV.idxA (j := 0) rfl Ia275 rfl rfl (by omega) (by omega)) ?_
       refine RQ.pv rfl (PV.loadF rfl Sc3 rfl rfl (El.o (getG (by omega))) rfl) ?_
       refine RQ.pv rfl (PV.mvI (.inl rfl) rfl) ?_
       refine RQ.pv rfl (PV.add rfl rfl rfl (by omega)) ?_
       refine RQ.pv rfl (PV.move (v := qv2) rfl rfl) ?_
       refine RQ.pv rfl (PV.mvI (.inl rfl) rfl) ?_
       refine RQ.pv rfl (PV.idxS (j := i) (v := qv2) rfl Is276 rfl SlF.o rfl (by omega) (by omega)) ?_
       refine RQ.pv rfl (PV.idxA (j := 1) rfl Ia275 rfl rfl (by omega) (by omega)) ?_
       refine RQ.pv rfl (PV.loadF rfl Sc3 rfl rfl (El.o (getG (by omega))) rfl) ?_
       refine RQ.pv rfl (PV.mvI (.inl rfl) rfl) ?_
       refine RQ.pv rfl (PV.add rfl rfl rfl (by omega)) ?_
       refine RQ.pv rfl (PV.mvI (.inr rfl) rfl) ?_
       refine RQ.pv rfl (PV.mvI (.inr rfl) rfl) ?_
       refine RQ.nil ?_
       refine WP.seq (WP.seq (WP.region (RG.ml rfl rfl rfl (RG.pv rfl (PV.neq rfl rfl rfl) (RG.bl rfl rfl rfl ?_)))))
       refine RG.gs rfl rfl rfl (fun hp => (PV.mvI (.inl rfl) rfl)) ?_
       refine RG.gs rfl rfl rfl (fun hp => (PV.neq rfl (gs_t hp) rfl)) ?_
       refine RG.pv rfl (PV.pickA rfl rfl (fun hq => gs_t (geqT hq)) rfl) (RG.bl rfl rfl rfl ?_)
       refine RG.gs rfl rfl rfl (fun hp => (PV.mvB (.inl rfl) rfl)) ?_
       refine RG.gs rfl rfl rfl (fun hp => (PV.not rfl (gs_t hp))) ?_
       refine RG.pv rfl (PV.pickA rfl rfl (fun hq => gs_t (geqT hq)) rfl) (RG.bl rfl rfl rfl ?_)
       refine RG.gs rfl rfl rfl (fun hp => (PV.mvI (.inl rfl) rfl)) ?_
       refine RG.gs rfl rfl rfl (fun hp => (PV.lss rfl (gs_t hp) rfl)) ?_
       refine RG.pv rfl (PV.pickO rfl rfl rfl (fun hq => gs_t (geqF hq))) (RG.bl rfl rfl rfl ?_)
       refine RG.gs rfl rfl rfl (fun hp => (PV.mvI (.inl rfl) rfl)) ?_
       refine RG.gs rfl rfl rfl (fun hp => (PV.lss rfl (gs_t hp) rfl)) ?_
       refine RG.pv rfl (PV.pickO rfl rfl rfl (fun hq => gs_t (geqF hq))) (RG.bl rfl rfl rfl ?_)
       refine RG.gs rfl rfl rfl (fun hp => (PV.mvI (.inl rfl) rfl)) ?_
       refine RG.gs rfl rfl rfl (fun hp => (PV.geq rfl (gs_t hp) rfl)) ?_
       refine RG.pv rfl (PV.pickO rfl rfl rfl (fun hq => gs_t (geqF hq))) (RG.bl rfl rfl rfl ?_)
       refine RG.gs rfl rfl rfl (fun hp => (PV.mvI (.inl rfl) rfl)) ?_
       refine RG.gs rfl rfl rfl (fun hp => (PV.geq rfl (gs_t hp) rfl)) ?_
       refine RG.pv rfl (PV.pickO rfl rfl rfl (fun hq => gs_t (geqF hq))) (RG.bl rfl rfl rfl ?_)
       refine RG.gs rfl rfl rfl (fun hp => (PV.mvP (.inl rfl) rfl)) ?_
       refine RG.gs rfl rfl rfl (fun hp => (PV.mvI (.inl rfl) rfl)) ?_
       refine RG.gs rfl rfl rfl (fun hp => (PV.mvI (.inl rfl) rfl)) ?_
       refine RG.gs rfl rfl rfl (fun hp => (PV.nilc rfl (gs_t hp))) ?_
       refine RG.gs rfl rfl rfl (fun hp => (PV.idxA (j := ((gd Q2 i).2 + dy).toNat) rfl Ia148 (gs_t hp) (gs_t hp) (by first | omega | (simp at hp; omega)) (by first | omega | (simp at hp; omega)))) ?_
       refine RG.gs rfl rfl rfl (fun hp => (PV.idxA (j := ((gd Q2 i).1 + dx).toNat) rfl Ia146 (gs_t hp) (gs_t hp) (by first | omega | (simp at hp; omega)) (by first | omega | (simp at hp; omega)))) ?_
       refine RG.gs rfl rfl rfl (fun hp => (PV.loadGr rfl Sc4 (gs_t hp) rfl (by first | omega | (simp at hp; omega)))) ?_
       refine RG.gs rfl rfl rfl (fun hp => (PV.not rfl (gs_t hp))) ?_
       refine RG.pv rfl (PV.pickO rfl rfl rfl (fun hq => gs_t (geqF hq))) (RG.bl rfl rfl rfl ?_)
       refine RG.gs rfl rfl rfl (fun hp => (PV.mvP (.inl rfl) rfl)) ?_
       refine RG.gs rfl rfl rfl (fun hp => (PV.mvI (.inl rfl) rfl)) ?_
       refine RG.gs rfl rfl rfl (fun hp => (PV.mvI (.inl rfl) rfl)) ?_
       refine RG.gs rfl rfl rfl (fun hp => (PV.nilc rfl (gs_t hp))) ?_
       refine RG.gs rfl rfl rfl (fun hp => (PV.idxA (j := ((gd Q2 i).2 + dy).toNat) rfl Ia148 (gs_t hp) (gs_t hp) (by first | omega | (simp at hp; omega)) (by first | omega | (simp at hp; omega)))) ?_
       refine RG.gs rfl rfl rfl (fun hp => (PV.idxA (j := ((gd Q2 i).1 + dx).toNat) rfl Ia146 (gs_t hp) (gs_t hp) (by first | omega | (simp at hp; omega)) (by first | omega | (simp at hp; omega)))) ?_
       refine RG.gs rfl rfl rfl (fun hp => (PV.loadGr rfl Sc4 (gs_t hp) rfl (by first | omega | (simp at hp; omega)))) ?_
       refine RG.pv rfl (PV.pickO rfl rfl rfl (fun hq => gs_t (geqF hq))) (RG.nil ?_)
       refine WP.cond rfl (fun h5 => ?_) (fun h5 => ?_)
       · have h6 : (dx ≠ 0 ∧ dy ≠ 0) ∨ (gd Q2 i).1 + dx < 0 ∨ (gd Q2 i).2 + dy < 0 ∨ (gd Q2 i).1 + dx ≥ 80 ∨ (gd Q2 i).2 + dy ≥ 80 ∨ gb S ((gd Q2 i).2 + dy).toNat ((gd Q2 i).1 + dx).toNat = false ∨ gb O2 ((gd Q2 i).2 + dy).toNat ((gd Q2 i).1 + dx).toNat = true := by
           simp only [Bool.or_eq_true, Bool.and_eq_true, decide_eq_true_eq, Bool.not_eq_true', Bool.not_false, or_assoc, and_true, gd_gb, decide_eq_false_iff_not] at h5
           exact h5
         refine WP.exit ?_
         refine WP.region (RG.ml rfl rfl rfl (RG.pv rfl (PV.add rfl rfl rfl (by omega)) (RG.mr rfl rfl rfl (RG.nil ?_))))
         exact ⟨rfl, dx + 1, Q2, O2, qv2, ⟨by omega, hF2, hD2, h02, hi2, hq2, by rw [← hq2] at hN2 ⊢; exact hN2.skip hb2 h6⟩, ⟨rfl, rfl, trivial⟩, ⟨rfl, rfl, rfl, rfl, rfl, trivial⟩, Cv.p, by omega⟩
       · have h6 : (dx = 0 ∨ dy = 0) ∧ 0 ≤ (gd Q2 i).1 + dx ∧ 0 ≤ (gd Q2 i).2 + dy ∧ (gd Q2 i).1 + dx < 80 ∧ (gd Q2 i).2 + dy < 80 ∧ gb S ((gd Q2 i).2 + dy).toNat ((gd Q2 i).1 + dx).toNat = true ∧ gb O2 ((gd Q2 i).2 + dy).toNat ((gd Q2 i).1 + dx).toNat = false := by
           simp only [Bool.or_eq_false_iff, Bool.and_eq_false_iff, decide_eq_false_iff_not, Bool.not_eq_false', Bool.not_false, and_assoc, Bool.true_eq_false, or_false, gd_gb, decide_eq_true_eq] at h5
           obtain ⟨a1, a2, a3, a4, a5, a6, a7⟩ := h5
           exact ⟨by omega, by omega, by omega, by omega, by omega, a6, a7⟩
         obtain ⟨a1, a2, a3, a4, a5, a6, a7⟩ := h6
         refine WP.skip (WP.seq (WP.region (RG.pv rfl (PV.mvP (.inl rfl) rfl) (RG.ml rfl rfl rfl (RG.ml rfl rfl rfl (RG.pv rfl (PV.nilc rfl rfl) (RG.pv rfl (PV.idxA (j := ((gd Q2 i).2 + dy).toNat) rfl Ia148 rfl rfl (by omega) (by omega)) ?_)))))))
         refine RG.pv rfl (PV.idxA (j := ((gd Q2 i).1 + dx).toNat) rfl Ia146 rfl rfl (by omega) (by omega)) ?_
         refine RG.ot rfl (OT.storeGr rfl Sz4 rfl rfl rfl (by first | omega | (simp; omega)) ?_)
         refine RG.nil (WP.region (RG.pv rfl (PV.move (v := qv2) rfl rfl) (RG.ml rfl rfl rfl (RG.ml rfl rfl rfl (RG.pv rfl (PV.buildA (F := intT) (az := [_, _]) rfl Tryz.underlying275 (by kernel_rfl) ⟨rfl, (Cl.c rfl), ⟨rfl, (Cl.c rfl), trivial⟩⟩) ?_)))))
         refine RG.ot rfl (OT.bslice (F := prT) (els := [⟨_, _⟩]) rfl El276 rfl (by decide) rfl (by decide) ⟨rfl, (Cl.c rfl), trivial⟩ fun v111 => ?_)
         refine RG.ot rfl (OT.append (v := qv2) (u := v111) (F := prT) rfl El276 rfl (by decide) rfl rfl Rs.o (OneL.c (fun _ => rfl)) rfl (by first | omega | (simp <;> omega)) fun v112 => ?_)
         refine RG.pv rfl (PV.asg (v := v112) rfl rfl) (RG.nil (WP.region (RG.ml rfl rfl rfl (RG.pv rfl (PV.add rfl rfl rfl (by omega)) (RG.mr rfl rfl rfl (RG.nil ?_))))))
         exact ⟨rfl, dx + 1, (Q2 ++ [((gd Q2 i).1 + dx, (gd Q2 i).2 + dy)]), (O2.set (((gd Q2 i).2 + dy).toNat * 80 + ((gd Q2 i).1 + dx).toNat) true), v112, ⟨by omega, hF2.add ⟨by omega, by omega⟩ ⟨by omega, by omega⟩ a7 a6 hi2 (adj_near hb2 (by omega) a1 (fun e => by have := (hF2.on i hi2).2.2; simp only [qc] at this; rw [e.1, e.2, Int.add_zero, Int.add_zero, this] at a7; cases a7) a2 a3), hD2.add hi2 (fun c hc => on_set hl2 ⟨by omega, by omega⟩ ⟨by omega, by omega⟩ hc), on_set hl2 ⟨by omega, by omega⟩ ⟨by omega, by omega⟩ h02, by simp; omega, by rw [gd_app_l hi2]; exact hq2, by rw [← hq2] at hN2 ⊢; exact hN2.take hl2 hb2 (by omega) (by omega)⟩, ⟨rfl, rfl, trivial⟩, ⟨rfl, rfl, rfl, rfl, rfl, trivial⟩, (Cv.p (C := grd b17 (O2.set (0 + ((gd Q2 i).2 + dy).toNat * 80 + ((gd Q2 i).1 + dx).toNat * 1) true) :: osl 275 prT v112 (Q2 ++ [((gd Q2 i).1 + dx, (gd Q2 i).2 + dy)]) :: grd b S :: L)).trans Cv.grd, by omega⟩
     · have h4 := of_decide_eq_false h4
       refine WP.exit ?_
       refine WP.region (RG.ml rfl rfl rfl (RG.pv rfl (PV.add rfl rfl rfl (by omega)) (RG.mr rfl rfl rfl (RG.nil ?_))))
       exact ⟨rfl, dy + 1, Q2, O2, qv2, ⟨by omega, hF2, hD2, h02, hi2, hq2, by obtain rfl : dx = 2 := (by omega); exact hN2.next⟩, ⟨rfl, rfl, trivial⟩, ⟨rfl, rfl, rfl, rfl, trivial⟩, Cv.p, by omega⟩
   · have h3 := of_decide_eq_false h3
     refine WP.exit ?_
     refine WP.region (RG.ml rfl rfl rfl (RG.pv rfl (PV.add rfl rfl rfl (by omega)) (RG.mr rfl rfl rfl (RG.nil ?_))))
     exact ⟨rfl, i + 1, Q1, O1, qv1, ⟨by omega, hF1, hD1.next (by rw [hq1]) (by obtain rfl : dy = 2 := (by omega); exact hN1), h01⟩, ⟨rfl, rfl, trivial⟩, ⟨rfl, rfl, rfl, trivial⟩, Cv.p, by omega⟩
 · have h2 := of_decide_eq_false h2
   obtain rfl : i = Q.length := by omega
   rw [← hF.final hseed h0 hD] at k
   refine WP.exit ?_
   refine WP.seq (WP.region (RG.pv rfl (PV.mvP (.inl rfl) rfl) (RG.pv rfl (PV.mvP (.inr rfl) rfl) (RG.nil ?_))))
   refine WP.ret ?_
   exact ⟨_, _, ResV.one rfl rfl, Cv.p, k _⟩
end Go.Proofs.YthhjapiggekjbaaGreat
namespace Go.Proofs.YthhjapiggekjbaaGreat
set_option linter.unusedVariables false
set_option linter.unusedSimpArgs false
open Go
set_option maxRecDepth 20000
set_option linter.unusedSimpArgs false
section
variable {P : Program} {n : Nat} {ops : Array Oper} {rest : List Oper} {Q : Post} {σ : Nat → Value} {G : Gh} {L : List Ch} {o : Oper}
theorem RQ.gsB {j t : Nat} {want p : Bool} {b fv : Value} {fo : Operand} {l : List Operand} {ats : Array TypeId} (hg : o.guard = some (j, want)) (hj : (ops[j]?).bind (·.dst) = some t) (hb : σ t = .bool p)
   (ho : o.op = .call { callee := .value fo, args := l.toArray, argTypes := ats })
   (h : (p == want) = true → ev σ fo = fv ∧ ∃ vs, cargs σ l = vs ∧ CB P G L fv vs b) (k : RQ P n ops rest Q (updo σ o.dst (gv (p == want) b)) G L) : RQ P n ops (o :: rest) Q σ G L :=
 RQ.gsK hg hj hb (fun e k => by obtain ⟨hf, vs, ha, hc⟩ := h e; exact RQ.callB rfl ho hf ha hc k) k
end
variable {G : Gh} {L : List Ch} {R : Value → Gh → List Ch → Prop}
theorem PV.shr {P : Program} {o : Oper} {σ : Nat → Value} {G : Gh} {L : List Ch} {T T' : TypeId} {x y : Operand} {k k' : IntKind} {a b : Int} (ho : o.op = .binOp .shr T x y T') (hx : ev σ x = .int k a) (hy : ev σ y = .int k' b) (h0 : 0 ≤ b) (h1 : b ≤ k.bits) : PV P o σ G L (.int k (a / 2 ^ b.toNat)) := by
 intro w _
 simp [execOp, ho, hx, hy, eqGuard, binOp, shift_shr k k' a b h0 h1]
theorem u64w {a : Int} (h : 0 ≤ a ∧ a ≤ 18446744073709551615) : IntKind.u64.wrap a = a := by simp [IntKind.wrap, IntKind.bits, IntKind.signed]; omega
theorem u8w {a : Int} (h : 0 ≤ a ∧ a ≤ 255) : IntKind.u8.wrap a = a := by simp [IntKind.wrap, IntKind.bits, IntKind.signed]; omega
theorem u8i (c : UInt8) : IntKind.i64.wrap (c.toNat : Int) = c.toNat := i64w (by have := c.toNat_lt; omega)
theorem u8add {a : Int} {c : UInt8} (h : 0 ≤ a ∧ a ≤ 1000) : -9223372036854775808 ≤ a + (c.toNat : Int) ∧ a + (c.toNat : Int) ≤ 9223372036854775807 := by have := c.toNat_lt; omega
theorem bitsLen64_s {a : Int} (ha : 0 ≤ a ∧ a ≤ 6400) (k : ∀ l : Int, (a ≠ 0 → l ≠ 0) → R (vi l) G L) : CallT Tryz.prog 182 #[.int .u64 a] G L R := by
 refine CallT.enter (args := _) Tryz.func182 rfl rfl (by kernel_rfl) rfl ?_
 refine WP.seq (WP.region (RG.mr rfl rfl rfl (RG.nil (WP.seq (WP.seq (WP.region (RG.ml rfl rfl rfl ?_)))))))
 refine RG.pv rfl (PV.geq rfl rfl rfl) (RG.nil ?_)
 refine WP.cond rfl (fun h2 => ?_) (fun h2 => ?_)
 · have h2 := of_decide_eq_true h2
   omega
 · refine WP.skip ?_
   refine WP.seq (WP.seq (WP.region (RG.ml rfl rfl rfl (RG.pv rfl (PV.geq rfl rfl rfl) (RG.nil ?_)))))
   refine WP.cond rfl (fun h3 => ?_) (fun h3 => ?_)
   · have h3 := of_decide_eq_true h3
     omega
   · refine WP.skip ?_
     refine WP.seq (WP.seq (WP.region (RG.ml rfl rfl rfl (RG.pv rfl (PV.geq rfl rfl rfl) (RG.nil ?_)))))
     refine WP.cond rfl (fun h4 => ?_) (fun h4 => ?_)
     · have h4 := of_decide_eq_true h4
       have e1 : IntKind.u8.wrap (a / 2 ^ Int.toNat 8) = (((a / 256).toNat : Nat) : Int) := by rw [show (2 : Int) ^ Int.toNat 8 = 256 from rfl, u8w (by omega)]; omega
       have e2 : (a / 256).toNat < 256 := by omega
       refine WP.seq (WP.region (RG.ml rfl rfl rfl (RG.pv rfl (PV.shr rfl rfl rfl (by decide) (by decide)) (RG.mr rfl rfl rfl (RG.nil (WP.region (RG.ml rfl rfl rfl ?_)))))))
       refine RG.pv rfl (PV.add rfl rfl rfl (by omega)) (RG.mr rfl rfl rfl (RG.nil (WP.seq (WP.region (RG.ml rfl rfl rfl (RG.ml rfl rfl rfl (RG.pv rfl (PV.conv rfl ⟨_, Tryz.underlying60⟩ Tryz.underlying5 rfl rfl) ?_)))))))
       refine RG.pv rfl (PV.idxStr (j := (a / 256).toNat) rfl Tryz.underlying9 rfl rfl e1 (getBG e2)) (RG.pv rfl (PV.conv rfl ⟨_, Tryz.underlying5⟩ Tryz.underlying3 rfl (u8i _)) (RG.pv rfl (PV.add rfl rfl rfl (by first | omega | exact u8add (by omega))) (RG.mr rfl rfl rfl (RG.nil ?_))))
       refine WP.ret ?_
       exact ⟨_, _, ResV.one rfl rfl, Cv.p, k _ (fun _ => by omega)⟩
     · have h5 := of_decide_eq_false h4
       have e1 : IntKind.u8.wrap a = ((a.toNat : Nat) : Int) := by rw [u8w (by omega)]; omega
       have e2 : a.toNat < 256 := by omega
       refine WP.skip (WP.seq (WP.region (RG.ml rfl rfl rfl (RG.ml rfl rfl rfl (RG.pv rfl (PV.conv rfl ⟨_, Tryz.underlying60⟩ Tryz.underlying5 rfl rfl) (RG.pv rfl (PV.idxStr (j := a.toNat) rfl Tryz.underlying9 rfl rfl e1 (getBG e2)) (RG.pv rfl (PV.conv rfl ⟨_, Tryz.underlying5⟩ Tryz.underlying3 rfl (u8i _)) ?_)))))))
       refine RG.pv rfl (PV.add rfl rfl rfl (by first | omega | exact u8add (by omega))) (RG.mr rfl rfl rfl (RG.nil ?_))
       refine WP.ret ?_
       refine ⟨_, _, ResV.one rfl rfl, Cv.p, k _ (fun h => ?_)⟩
       obtain ⟨m, rfl⟩ : ∃ m : Nat, a = (m : Int) := ⟨a.toNat, by omega⟩
       have hm : m < 256 := by omega
       have h0 : m ≠ 0 := by omega
       rw [Int.toNat_natCast]
       clear h e2 e1 h5 h4 h3 h2 k ha
       unfold bt
       revert m
       decide +kernel
theorem bitsLen_s {a : Int} (ha : 0 ≤ a ∧ a ≤ 6400) (k : ∀ l : Int, (a ≠ 0 → l ≠ 0) → R (vi l) G L) : CallT Tryz.prog 127 #[.int .u64 a] G L R := by
 refine CallT.enter (args := _) Tryz.func127 rfl rfl (by kernel_rfl) rfl ?_
 refine WP.seq (WP.region (RG.mr rfl rfl rfl (RG.nil (WP.seq ?_))))
 refine WP.cond rfl (fun h2 => ?_) (fun h2 => ?_)
 · exact absurd h2 (by decide)
 · refine WP.skip ?_
   refine WP.seq (WP.region (RG.ml rfl rfl rfl ?_))
   refine RG.callF (vs := [_]) rfl rfl En182 rfl (bitsLen64_s ha (fun l hl => ?_))
   refine RG.mr rfl rfl rfl (RG.nil ?_)
   refine WP.ret ?_
   exact ⟨_, _, ResV.one rfl rfl, Cv.p, k _ hl⟩
theorem order2_rss {v fv p : Value} {xs : List (Sl Rect)} {a b : Int} {cf : Nat → Nat → Int} (h1 : Rs G L slT v xs) (h0 : 0 ≤ a) (hab : a < b) (hb : b < xs.length) (hf : ∀ i j, i < xs.length → j < xs.length → CB Tryz.prog G L fv [Sl.v (gd xs i), Sl.v (gd xs j)] (vi (cf i j))) (hs : ∀ i j, i < j → j < xs.length → ¬ cf j i < 0) (k : R (.tuple #[vi a, vi b]) G L) : CallT Tryz.prog 252 #[v, vi a, vi b, p, fv] G L R := by
 refine CallT.bd h1 fun hbd => ?_
 refine CallT.enter (args := _) Tryz.func252 rfl rfl (by kernel_rfl) rfl ?_
 refine WP.seq (WP.region (RG.mr rfl rfl rfl (RG.mr rfl rfl rfl (RG.nil (WP.seq (WP.seq ?_))))))
 refine WP.regionQ (by kernel_rfl) (by kernel_rfl) ?_
 refine RQ.pv rfl (PV.move (v := fv) rfl rfl) ?_
 refine RQ.pv rfl (PV.move (v := v) rfl rfl) ?_
 refine RQ.pv rfl (PV.mvI (.inl rfl) rfl) ?_
 refine RQ.pv rfl (PV.idxS (j := b.toNat) (v := v) rfl Is47 rfl (SlF.r h1) rfl (by omega) (by omega)) ?_
 refine RQ.pv rfl (PV.loadE1 rfl Sc50 rfl rfl (El.r h1 (getG (by omega))) rfl) ?_
 refine RQ.pv rfl (PV.move (v := v) rfl rfl) ?_
 refine RQ.pv rfl (PV.mvI (.inl rfl) rfl) ?_
 refine RQ.pv rfl (PV.idxS (j := a.toNat) (v := v) rfl Is47 rfl (SlF.r h1) rfl (by omega) (by omega)) ?_
 refine RQ.pv rfl (PV.loadE1 rfl Sc50 rfl rfl (El.r h1 (getG (by omega))) rfl) ?_
 refine RQ.callB (vs := [_, _]) rfl rfl rfl rfl (CB.up (hf b.toNat a.toNat (by omega) (by omega))) ?_
 refine RQ.pv rfl (PV.lss rfl rfl rfl) ?_
 refine RQ.nil ?_
 refine WP.cond rfl (fun h2 => ?_) (fun h2 => ?_)
 · exact absurd (of_decide_eq_true h2) (hs _ _ (by omega) (by omega))
 · refine WP.skip ?_
   refine WP.seq (WP.region (RG.ml rfl rfl rfl (RG.ml rfl rfl rfl (RG.mr rfl rfl rfl (RG.mr rfl rfl rfl (RG.nil ?_))))))
   refine WP.ret ?_
   exact ⟨_, _, ResV.two rfl rfl rfl, Cv.p, k⟩
theorem median_rss {v fv p : Value} {xs : List (Sl Rect)} {a b c : Int} {cf : Nat → Nat → Int} (h1 : Rs G L slT v xs) (h0 : 0 ≤ a) (hab : a < b) (hbc : b < c) (hc : c < xs.length) (hf : ∀ i j, i < xs.length → j < xs.length → CB Tryz.prog G L fv [Sl.v (gd xs i), Sl.v (gd xs j)] (vi (cf i j))) (hs : ∀ i j, i < j → j < xs.length → ¬ cf j i < 0) (k : R (vi b) G L) : CallT Tryz.prog 247 #[v, vi a, vi b, vi c, p, fv] G L R := by
 refine CallT.bd h1 fun hbd => ?_
 refine CallT.enter (args := _) Tryz.func247 rfl rfl (by kernel_rfl) rfl ?_
 refine WP.seq (WP.region (RG.mr rfl rfl rfl (RG.nil (WP.seq (WP.region (RG.pv rfl (PV.move (v := v) rfl rfl) (RG.ml rfl rfl rfl ?_)))))))
 refine RG.ml rfl rfl rfl (RG.pv rfl (PV.move (v := p) rfl rfl) (RG.pv rfl (PV.move (v := fv) rfl rfl) ?_))
 refine RG.callF (vs := [v, _, _, p, fv]) rfl rfl En252 rfl (order2_rss (Rs.up h1) (by omega) (by omega) (by omega) (fun i j hi hj => (hf i j hi hj).up) hs ?_)
 refine RG.pv rfl (PV.move rfl rfl) (RG.pv rfl (PV.ext rfl rfl rfl) (RG.pv rfl (PV.ext rfl rfl rfl) (RG.mr rfl rfl rfl (RG.mr rfl rfl rfl (RG.nil (WP.seq (WP.region ?_)))))))
 refine RG.pv rfl (PV.move (v := v) rfl rfl) (RG.ml rfl rfl rfl (RG.ml rfl rfl rfl (RG.pv rfl (PV.move (v := p) rfl rfl) (RG.pv rfl (PV.move (v := fv) rfl rfl) ?_))))
 refine RG.callF (vs := [v, _, _, p, fv]) rfl rfl En252 rfl (order2_rss (Rs.up h1) (by omega) (by omega) (by omega) (fun i j hi hj => (hf i j hi hj).up) hs ?_)
 refine RG.pv rfl (PV.move rfl rfl) (RG.pv rfl (PV.ext rfl rfl rfl) (RG.pv rfl (PV.ext rfl rfl rfl) (RG.mr rfl rfl rfl (RG.mr rfl rfl rfl (RG.nil (WP.seq (WP.region ?_)))))))
 refine RG.pv rfl (PV.move (v := v) rfl rfl) (RG.ml rfl rfl rfl (RG.ml rfl rfl rfl (RG.pv rfl (PV.move (v := p) rfl rfl) (RG.pv rfl (PV.move (v := fv) rfl rfl) ?_))))
 refine RG.callF (vs := [v, _, _, p, fv]) rfl rfl En252 rfl (order2_rss (Rs.up h1) (by omega) (by omega) (by omega) (fun i j hi hj => (hf i j hi hj).up) hs ?_)
 refine RG.pv rfl (PV.move rfl rfl) (RG.pv rfl (PV.ext rfl rfl rfl) (RG.pv rfl (PV.ext rfl rfl rfl) (RG.mr rfl rfl rfl (RG.mr rfl rfl rfl (RG.nil (WP.seq (WP.region ?_)))))))
 refine RG.ml rfl rfl rfl (RG.mr rfl rfl rfl (RG.nil ?_))
 refine WP.ret ?_
 exact ⟨_, _, ResV.one rfl rfl, Cv.p, k⟩
theorem medianAdj_rss {v fv p : Value} {xs : List (Sl Rect)} {a : Int} {cf : Nat → Nat → Int} (h1 : Rs G L slT v xs) (ha : 0 < a) (hc : a + 1 < xs.length) (hf : ∀ i j, i < xs.length → j < xs.length → CB Tryz.prog G L fv [Sl.v (gd xs i), Sl.v (gd xs j)] (vi (cf i j))) (hs : ∀ i j, i < j → j < xs.length → ¬ cf j i < 0) (k : R (vi a) G L) : CallT Tryz.prog 246 #[v, vi a, p, fv] G L R := by
 refine CallT.bd h1 fun hbd => ?_
 refine CallT.enter (args := _) Tryz.func246 rfl rfl (by kernel_rfl) rfl ?_
 refine WP.seq (WP.region (RG.mr rfl rfl rfl (RG.nil (WP.seq (WP.region (RG.pv rfl (PV.move (v := v) rfl rfl) (RG.ml rfl rfl rfl ?_)))))))
 refine RG.pv rfl (PV.sub rfl rfl rfl (by omega)) (RG.ml rfl rfl rfl (RG.ml rfl rfl rfl (RG.pv rfl (PV.add rfl rfl rfl (by omega)) (RG.pv rfl (PV.move (v := p) rfl rfl) (RG.pv rfl (PV.move (v := fv) rfl rfl) ?_)))))
 refine RG.callF (vs := [v, _, _, _, p, fv]) rfl rfl En247 rfl (median_rss (Rs.up h1) (by omega) (by omega) (by omega) (by omega) (fun i j hi hj => (hf i j hi hj).up) hs ?_)
 refine RG.mr rfl rfl rfl (RG.nil ?_)
 refine WP.ret ?_
 exact ⟨_, _, ResV.one rfl rfl, Cv.p, k⟩
theorem choosePivot_rss {v fv : Value} {xs : List (Sl Rect)} {a b : Int} {cf : Nat → Nat → Int} (h1 : Rs G L slT v xs) (h0 : 0 ≤ a) (hab : 8 ≤ b - a) (hb : b ≤ xs.length) (hf : ∀ i j, i < xs.length → j < xs.length → CB Tryz.prog G L fv [Sl.v (gd xs i), Sl.v (gd xs j)] (vi (cf i j))) (hs : ∀ i j, i < j → j < xs.length → ¬ cf j i < 0) (k : ∀ p, R (.tuple #[vi p, vi 1]) G L) : CallT Tryz.prog 227 #[v, vi a, vi b, fv] G L R := by
 refine CallT.bd h1 fun hbd => ?_
 refine CallT.enter (args := _) Tryz.func227 rfl rfl (by kernel_rfl) rfl ?_
 refine WP.seq (WP.region (RG.mr rfl rfl rfl (RG.mr rfl rfl rfl (RG.nil (WP.seq (WP.region (RG.ml rfl rfl rfl ?_)))))))
 refine RG.ml rfl rfl rfl (RG.pv rfl (PV.sub rfl rfl rfl (by omega)) (RG.mr rfl rfl rfl (RG.nil (WP.seq (WP.region ?_)))))
 refine RG.ot rfl (OT.alloc rfl Zr3 fun b11 => ?_)
 refine RG.nil (WP.seq (WP.region (RG.ml rfl rfl rfl (RG.ml rfl rfl rfl (RG.pv rfl (PV.quo rfl rfl rfl (by omega) (by omega) (by omega)) (RG.pv rfl (PV.mul rfl rfl rfl (by omega)) (RG.pv rfl (PV.add rfl rfl rfl (by omega)) ?_)))))))
 refine RG.mr rfl rfl rfl (RG.nil (WP.seq (WP.region (RG.ml rfl rfl rfl (RG.ml rfl rfl rfl (RG.pv rfl (PV.quo rfl rfl rfl (by omega) (by omega) (by omega)) (RG.pv rfl (PV.mul rfl rfl rfl (by omega)) ?_)))))))
 refine RG.pv rfl (PV.add rfl rfl rfl (by omega)) (RG.mr rfl rfl rfl (RG.nil (WP.seq (WP.region (RG.ml rfl rfl rfl (RG.ml rfl rfl rfl (RG.pv rfl (PV.quo rfl rfl rfl (by omega) (by omega) (by omega)) ?_)))))))
 refine RG.pv rfl (PV.mul rfl rfl rfl (by omega)) (RG.pv rfl (PV.add rfl rfl rfl (by omega)) (RG.mr rfl rfl rfl (RG.nil (WP.seq (WP.seq (WP.region (RG.ml rfl rfl rfl ?_)))))))
 refine RG.pv rfl (PV.geq rfl rfl rfl) (RG.nil ?_)
 refine WP.cond rfl (fun h2 => ?_) (fun h2 => ?_)
 · refine WP.seq ?_
   refine WP.seq (WP.region (RG.ml rfl rfl rfl (RG.pv rfl (PV.geq rfl rfl rfl) (RG.nil ?_))))
   refine WP.cond rfl (fun h3 => ?_) (fun h3 => ?_)
   · have h3 := of_decide_eq_true h3
     refine WP.seq (WP.region (RG.pv rfl (PV.move (v := v) rfl rfl) (RG.ml rfl rfl rfl (RG.pv rfl (PV.move (v := fv) rfl rfl) ?_))))
     refine RG.callF (vs := [v, _, _, fv]) rfl rfl En246 rfl (medianAdj_rss (Rs.up h1) (by omega) (by omega) (fun i j hi hj => (hf i j hi hj).up) hs ?_)
     refine RG.mr rfl rfl rfl (RG.nil (WP.seq (WP.region (RG.pv rfl (PV.move (v := v) rfl rfl) (RG.ml rfl rfl rfl (RG.pv rfl (PV.move (v := fv) rfl rfl) ?_))))))
     refine RG.callF (vs := [v, _, _, fv]) rfl rfl En246 rfl (medianAdj_rss (Rs.up h1) (by omega) (by omega) (fun i j hi hj => (hf i j hi hj).up) hs ?_)
     refine RG.mr rfl rfl rfl (RG.nil (WP.region (RG.pv rfl (PV.move (v := v) rfl rfl) (RG.ml rfl rfl rfl (RG.pv rfl (PV.move (v := fv) rfl rfl) ?_)))))
     refine RG.callF (vs := [v, _, _, fv]) rfl rfl En246 rfl (medianAdj_rss (Rs.up h1) (by omega) (by omega) (fun i j hi hj => (hf i j hi hj).up) hs ?_)
     refine RG.mr rfl rfl rfl (RG.nil (WP.region (RG.pv rfl (PV.move (v := v) rfl rfl) (RG.ml rfl rfl rfl (RG.ml rfl rfl rfl (RG.ml rfl rfl rfl (RG.pv rfl (PV.move (v := fv) rfl rfl) ?_)))))))
     refine RG.callF (vs := [v, _, _, _, _, fv]) rfl rfl En247 rfl (median_rss (Rs.up h1) (by omega) (by omega) (by omega) (by omega) (fun i j hi hj => (hf i j hi hj).up) hs ?_)
     refine RG.mr rfl rfl rfl (RG.nil (WP.seq (WP.region (RG.pv rfl (PV.load1 rfl Sc3 rfl (Rd.blk rfl)) (RG.nil (WP.block (WP.seq ?_)))))))
     refine WP.region (RG.pv rfl (PV.eql rfl rfl rfl) (RG.br rfl rfl rfl (RG.nil ?_)))
     refine WP.cond rfl (fun h4 => ?_) (fun h4 => ?_)
     · refine WP.seq ?_
       refine WP.region (RG.ml rfl rfl rfl (RG.mr rfl rfl rfl (RG.mr rfl rfl rfl (RG.nil ?_))))
       refine WP.ret ?_
       exact ⟨_, _, ResV.two rfl rfl rfl, Cv.p, k _⟩
     · skip
       exact absurd h4 (by decide)
   · refine WP.skip ?_
     refine WP.region (RG.pv rfl (PV.move (v := v) rfl rfl) (RG.ml rfl rfl rfl (RG.ml rfl rfl rfl (RG.ml rfl rfl rfl (RG.pv rfl (PV.move (v := fv) rfl rfl) ?_)))))
     refine RG.callF (vs := [v, _, _, _, _, fv]) rfl rfl En247 rfl (median_rss (Rs.up h1) (by omega) (by omega) (by omega) (by omega) (fun i j hi hj => (hf i j hi hj).up) hs ?_)
     refine RG.mr rfl rfl rfl (RG.nil (WP.seq (WP.region (RG.pv rfl (PV.load1 rfl Sc3 rfl (Rd.blk rfl)) (RG.nil (WP.block (WP.seq ?_)))))))
     refine WP.region (RG.pv rfl (PV.eql rfl rfl rfl) (RG.br rfl rfl rfl (RG.nil ?_)))
     refine WP.cond rfl (fun h4 => ?_) (fun h4 => ?_)
     · refine WP.seq ?_
       refine WP.region (RG.ml rfl rfl rfl (RG.mr rfl rfl rfl (RG.mr rfl rfl rfl (RG.nil ?_))))
       refine WP.ret ?_
       exact ⟨_, _, ResV.two rfl rfl rfl, Cv.p, k _⟩
     · skip
       exact absurd h4 (by decide)
 · exact absurd (of_decide_eq_false h2) (by omega)
theorem insertion_rss {v fv : Value} {xs : List (Sl Rect)} {a b : Int} {cf : Nat → Nat → Int} (hl : xs.length ≤ 1000000) (h1 : Rs G L slT v xs) (h0 : 0 ≤ a) (hab : a ≤ b) (hb : b ≤ xs.length) (hf : ∀ i j, i < xs.length → j < xs.length → CB Tryz.prog G L fv [Sl.v (gd xs i), Sl.v (gd xs j)] (vi (cf i j))) (hs : ∀ i j, i < j → j < xs.length → ¬ cf j i < 0) (k : R (.tuple #[]) G L) : CallT Tryz.prog 224 #[v, vi a, vi b, fv] G L R := by
 refine CallT.bd h1 fun hbd => ?_
 refine CallT.enter (args := _) Tryz.func224 rfl rfl (by kernel_rfl) rfl ?_
 refine WP.seq (WP.region (RG.ml rfl rfl rfl (RG.pv rfl (PV.add rfl rfl rfl (by omega)) (RG.mr rfl rfl rfl (RG.nil (WP.block ?_))))))
 refine WP.loop1 [0, 1, 2, 3] (fun (i : Int) => a + 1 ≤ i) (fun (i : Int) => [(8, vi i)]) (fun (i : Int) => L) (fun (i : Int) => (b - i).toNat) (a + 1) (by omega) ⟨rfl, trivial⟩ Cv.p ?_
 rintro i τ hi
 refine WP.seq (WP.seq (WP.region (RG.ml rfl rfl rfl (RG.ml rfl rfl rfl (RG.pv rfl (PV.lss rfl rfl rfl) (RG.nil ?_))))))
 refine WP.cond rfl (fun h2 => ?_) (fun h2 => ?_)
 · have h2 := of_decide_eq_true h2
   refine WP.skip (WP.seq (WP.block (WP.seq (WP.region (RG.ml rfl rfl rfl (RG.mr rfl rfl rfl (RG.nil ?_)))))))
   refine WP.block ?_
   refine WP.loop1 [0, 1, 2, 3, 8] (fun (u : Unit) => True) (fun (u : Unit) => [(9, vi i)]) (fun (u : Unit) => L) (fun (u : Unit) => 0) () trivial ⟨rfl, trivial⟩ Cv.p ?_
   rintro _u τ1 _
   refine WP.seq (WP.seq ?_)
   refine WP.regionQ (by kernel_rfl) (by kernel_rfl) ?_
   refine RQ.pv rfl (PV.mvI (.inl rfl) rfl) ?_
   refine RQ.pv rfl (PV.mvI (.inl rfl) rfl) ?_
   refine RQ.pv rfl (PV.gtr rfl rfl rfl) ?_
   refine RQ.pv rfl (PV.mvB (.inl rfl) rfl) ?_
   refine RQ.gs rfl rfl rfl (fun hp => (PV.move (v := fv) rfl rfl)) ?_
   refine RQ.gs rfl rfl rfl (fun hp => (PV.move (v := v) rfl rfl)) ?_
   refine RQ.gs rfl rfl rfl (fun hp => (PV.mvI (.inl rfl) rfl)) ?_
   refine RQ.gs rfl rfl rfl (fun hp => (PV.idxS (j := i.toNat) (v := v) rfl Is47 (gs_t hp) (SlF.r h1) (gs_t hp) (by first | omega | (simp at hp; omega)) (by first | omega | (simp at hp; omega)))) ?_
   refine RQ.gs rfl rfl rfl (fun hp => (PV.loadE1 rfl Sc50 (gs_t hp) rfl (El.r h1 (getG (by first | omega | (simp at hp; omega)))) rfl)) ?_
   refine RQ.gs rfl rfl rfl (fun hp => (PV.move (v := v) rfl rfl)) ?_
   refine RQ.gs rfl rfl rfl (fun hp => (PV.mvI (.inl rfl) rfl)) ?_
   refine RQ.gs rfl rfl rfl (fun hp => (PV.sub rfl (gs_t hp) rfl (by first | omega | (simp at hp; omega)))) ?_
   refine RQ.gs rfl rfl rfl (fun hp => (PV.idxS (j := (i - 1).toNat) (v := v) rfl Is47 (gs_t hp) (SlF.r h1) (gs_t hp) (by first | omega | (simp at hp; omega)) (by first | omega | (simp at hp; omega)))) ?_
   refine RQ.gs rfl rfl rfl (fun hp => (PV.loadE1 rfl Sc50 (gs_t hp) rfl (El.r h1 (getG (by first | omega | (simp at hp; omega)))) rfl)) ?_
   refine RQ.gsB rfl rfl rfl rfl (fun hp => ⟨(gs_t hp), _, (acons (gs_t hp) (acons (gs_t hp) anil)), CB.up (hf i.toNat (i - 1).toNat (by omega) (by omega))⟩) ?_
   refine RQ.gs rfl rfl rfl (fun hp => (PV.lss rfl (gs_t hp) rfl)) ?_
   refine RQ.pv rfl (PV.pickA rfl rfl (fun hq => gs_t (geqT hq)) rfl) ?_
   refine RQ.nil ?_
   refine WP.cond rfl (fun h3 => ?_) (fun h3 => ?_)
   · have h4 := hs (i - 1).toNat i.toNat (by omega) (by omega)
     simp only [Bool.and_eq_true, decide_eq_true_eq] at h3
     exact absurd h3.2 h4
   · refine WP.exit ?_
     refine WP.region (RG.ml rfl rfl rfl (RG.pv rfl (PV.add rfl rfl rfl (by omega)) (RG.mr rfl rfl rfl (RG.nil ?_))))
     exact ⟨rfl, i + 1, (by omega), ⟨rfl, trivial⟩, ⟨rfl, rfl, rfl, rfl, trivial⟩, Cv.p, by omega⟩
 · have h2 := of_decide_eq_false h2
   refine WP.exit ?_
   exact ⟨_, _, ResV.zero rfl, Cv.p, k⟩
theorem partialIns_rss {v fv : Value} {xs : List (Sl Rect)} {a b : Int} {cf : Nat → Nat → Int} (h1 : Rs G L slT v xs) (h0 : 0 ≤ a) (hab : a < b) (hb : b ≤ xs.length) (hf : ∀ i j, i < xs.length → j < xs.length → CB Tryz.prog G L fv [Sl.v (gd xs i), Sl.v (gd xs j)] (vi (cf i j))) (hs : ∀ i j, i < j → j < xs.length → ¬ cf j i < 0) (k : R (.bool true) G L) : CallT Tryz.prog 229 #[v, vi a, vi b, fv] G L R := by
 refine CallT.bd h1 fun hbd => ?_
 refine CallT.enter (args := _) Tryz.func229 rfl rfl (by kernel_rfl) rfl ?_
 refine WP.seq (WP.region (RG.br rfl rfl rfl (RG.nil (WP.seq (WP.region (RG.ml rfl rfl rfl (RG.pv rfl (PV.add rfl rfl rfl (by omega)) ?_)))))))
 refine RG.mr rfl rfl rfl (RG.nil (WP.seq (WP.seq (WP.region (RG.mr rfl rfl rfl (RG.nil (WP.block ?_)))))))
 refine WP.loop1 [0, 1, 2, 3] (fun (u : Unit) => True) (fun (u : Unit) => [(9, vi (a + 1)), (10, vi 0)]) (fun (u : Unit) => L) (fun (u : Unit) => 0) () trivial ⟨rfl, rfl, trivial⟩ Cv.p ?_
 rintro _u τ _
 refine WP.seq (WP.seq (WP.region (RG.ml rfl rfl rfl (RG.pv rfl (PV.lss rfl rfl rfl) (RG.nil ?_)))))
 refine WP.cond rfl (fun h2 => ?_) (fun h2 => ?_)
 · refine WP.skip ?_
   refine WP.seq (WP.block (WP.seq (WP.block ?_)))
   refine WP.loop1 [0, 1, 2, 3, 10] (fun (i : Int) => a + 1 ≤ i ∧ i ≤ b) (fun (i : Int) => [(9, vi i)]) (fun (i : Int) => L) (fun (i : Int) => (b - i).toNat) (a + 1) (by omega) ⟨rfl, trivial⟩ Cv.p ?_
   rintro i τ1 hi
   refine WP.seq (WP.seq ?_)
   refine WP.regionQ (by kernel_rfl) (by kernel_rfl) ?_
   refine RQ.pv rfl (PV.mvI (.inl rfl) rfl) ?_
   refine RQ.pv rfl (PV.mvI (.inl rfl) rfl) ?_
   refine RQ.pv rfl (PV.lss rfl rfl rfl) ?_
   refine RQ.pv rfl (PV.mvB (.inl rfl) rfl) ?_
   refine RQ.gs rfl rfl rfl (fun hp => (PV.move (v := fv) rfl rfl)) ?_
   refine RQ.gs rfl rfl rfl (fun hp => (PV.move (v := v) rfl rfl)) ?_
   refine RQ.gs rfl rfl rfl (fun hp => (PV.mvI (.inl rfl) rfl)) ?_
   refine RQ.gs rfl rfl rfl (fun hp => (PV.idxS (j := i.toNat) (v := v) rfl Is47 (gs_t hp) (SlF.r h1) (gs_t hp) (by first | omega | (simp at hp; omega)) (by first | omega | (simp at hp; omega)))) ?_
   refine RQ.gs rfl rfl rfl (fun hp => (PV.loadE1 rfl Sc50 (gs_t hp) rfl (El.r h1 (getG (by first | omega | (simp at hp; omega)))) rfl)) ?_
   refine RQ.gs rfl rfl rfl (fun hp => (PV.move (v := v) rfl rfl)) ?_
   refine RQ.gs rfl rfl rfl (fun hp => (PV.mvI (.inl rfl) rfl)) ?_
   refine RQ.gs rfl rfl rfl (fun hp => (PV.sub rfl (gs_t hp) rfl (by first | omega | (simp at hp; omega)))) ?_
   refine RQ.gs rfl rfl rfl (fun hp => (PV.idxS (j := (i - 1).toNat) (v := v) rfl Is47 (gs_t hp) (SlF.r h1) (gs_t hp) (by first | omega | (simp at hp; omega)) (by first | omega | (simp at hp; omega)))) ?_
   refine RQ.gs rfl rfl rfl (fun hp => (PV.loadE1 rfl Sc50 (gs_t hp) rfl (El.r h1 (getG (by first | omega | (simp at hp; omega)))) rfl)) ?_
   refine RQ.gsB rfl rfl rfl rfl (fun hp => ⟨(gs_t hp), _, (acons (gs_t hp) (acons (gs_t hp) anil)), CB.up (hf i.toNat (i - 1).toNat (by simp at hp; omega) (by simp at hp; omega))⟩) ?_
   refine RQ.gs rfl rfl rfl (fun hp => (PV.lss rfl (gs_t hp) rfl)) ?_
   refine RQ.gs rfl rfl rfl (fun hp => (PV.not rfl (gs_t hp))) ?_
   refine RQ.pv rfl (PV.pickA rfl rfl (fun hq => gs_t (geqT hq)) rfl) ?_
   refine RQ.nil ?_
   refine WP.cond rfl (fun h3 => ?_) (fun h3 => ?_)
   · have h4 : i < b := by simp at h3; omega
     refine WP.skip (WP.block (WP.region (RG.ml rfl rfl rfl (RG.pv rfl (PV.add rfl rfl rfl (by omega)) (RG.mr rfl rfl rfl (RG.nil ?_))))))
     exact ⟨rfl, i + 1, (by omega), ⟨rfl, trivial⟩, ⟨rfl, rfl, rfl, rfl, rfl, trivial⟩, Cv.p, by omega⟩
   · have h4 : i = b := by
       by_cases e : i < b
       · have h4 := hs (i - 1).toNat i.toNat (by omega) (by omega)
         simp only [Bool.and_eq_false_iff, decide_eq_false_iff_not, Bool.not_eq_false', decide_eq_true_eq] at h3
         omega
       · omega
     subst h4
     refine WP.exit ?_
     refine WP.seq (WP.seq (WP.region (RG.ml rfl rfl rfl (RG.ml rfl rfl rfl (RG.pv rfl (PV.eql rfl rfl rfl) (RG.nil ?_))))))
     refine WP.cond rfl (fun h5 => ?_) (fun h5 => ?_)
     · refine WP.seq ?_
       refine WP.region (RG.br rfl rfl rfl (RG.nil ?_))
       refine WP.ret ?_
       exact ⟨_, _, ResV.one rfl rfl, Cv.p, k⟩
     · simp at h5
 · exact absurd h2 (by decide)
theorem pdq_rss {v fv : Value} {xs : List (Sl Rect)} {n l : Int} {cf : Nat → Nat → Int} (hl : xs.length ≤ 1000000) (h1 : Rs G L slT v xs) (hn : n = xs.length) (hl0 : 12 < n → l ≠ 0) (hf : ∀ i j, i < xs.length → j < xs.length → CB Tryz.prog G L fv [Sl.v (gd xs i), Sl.v (gd xs j)] (vi (cf i j))) (hs : ∀ i j, i < j → j < xs.length → ¬ cf j i < 0) (k : R (.tuple #[]) G L) : CallT Tryz.prog 209 #[v, vi 0, vi n, vi l, fv] G L R := by
 refine CallT.bd h1 fun hbd => ?_
 refine CallT.enter (args := _) Tryz.func209 rfl rfl (by kernel_rfl) rfl ?_
 refine WP.seq (WP.region (RG.br rfl rfl rfl (RG.nil (WP.seq (WP.region (RG.br rfl rfl rfl (RG.nil ?_)))))))
 refine WP.block ?_
 refine WP.loop1 [0, 4] (fun (u : Unit) => True) (fun (u : Unit) => [(1, vi 0), (2, vi n), (3, vi l), (10, .bool true), (11, .bool true)]) (fun (u : Unit) => L) (fun (u : Unit) => 0) () trivial ⟨rfl, rfl, rfl, rfl, rfl, trivial⟩ Cv.p ?_
 rintro _u τ _
 refine WP.block (WP.seq (WP.region (RG.ml rfl rfl rfl (RG.ml rfl rfl rfl (RG.pv rfl (PV.sub rfl rfl rfl (by omega)) (RG.mr rfl rfl rfl (RG.nil ?_)))))))
 refine WP.seq (WP.seq (WP.region (RG.ml rfl rfl rfl (RG.pv rfl (PV.leq rfl rfl rfl) (RG.nil ?_)))))
 refine WP.cond rfl (fun h2 => ?_) (fun h2 => ?_)
 · have h2 := of_decide_eq_true h2
   refine WP.seq (WP.region (RG.pv rfl (PV.move (v := v) rfl rfl) (RG.ml rfl rfl rfl (RG.ml rfl rfl rfl (RG.pv rfl (PV.move (v := fv) rfl rfl) ?_)))))
   refine RG.callF (vs := [v, _, _, fv]) rfl rfl En224 rfl (insertion_rss hl (Rs.up h1) (by omega) (by omega) (by omega) (fun i j hi hj => (hf i j hi hj).up) hs ?_)
   refine RG.nil ?_
   refine WP.ret ?_
   exact ⟨_, _, ResV.zero rfl, Cv.p, k⟩
 · have h2 := of_decide_eq_false h2
   refine WP.skip (WP.seq (WP.seq (WP.region (RG.ml rfl rfl rfl (RG.pv rfl (PV.eql rfl rfl rfl) (RG.nil ?_))))))
   refine WP.cond rfl (fun h3 => ?_) (fun h3 => ?_)
   · exact absurd (of_decide_eq_true h3) (hl0 (by omega))
   · refine WP.skip ?_
     refine WP.seq (WP.seq (WP.region (RG.bl rfl rfl rfl (RG.pv rfl (PV.not rfl rfl) (RG.nil ?_)))))
     refine WP.cond rfl (fun h4 => ?_) (fun h4 => ?_)
     · exact absurd h4 (by decide)
     · refine WP.skip ?_
       refine WP.seq (WP.region (RG.pv rfl (PV.move (v := v) rfl rfl) (RG.ml rfl rfl rfl (RG.ml rfl rfl rfl (RG.pv rfl (PV.move (v := fv) rfl rfl) ?_)))))
       refine RG.callF (vs := [v, _, _, fv]) rfl rfl En227 rfl (choosePivot_rss (Rs.up h1) (by omega) (by omega) (by omega) (fun i j hi hj => (hf i j hi hj).up) hs (fun pw52 => ?_))
       refine RG.pv rfl (PV.move (v := .tuple _) rfl rfl) (RG.pv rfl (PV.ext rfl rfl rfl) (RG.pv rfl (PV.ext rfl rfl rfl) (RG.mr rfl rfl rfl (RG.mr rfl rfl rfl (RG.nil (WP.seq (WP.seq ?_)))))))
       refine WP.region (RG.ml rfl rfl rfl (RG.pv rfl (PV.eql rfl rfl rfl) (RG.nil ?_)))
       refine WP.cond rfl (fun h5 => ?_) (fun h5 => ?_)
       · exact absurd h5 (by decide)
       · refine WP.skip ?_
         refine WP.seq (WP.seq (WP.region (RG.bl rfl rfl rfl (RG.bl rfl rfl rfl ?_))))
         refine RG.gs rfl rfl rfl (fun hp => (PV.mvB (.inl rfl) rfl)) ?_
         refine RG.pv rfl (PV.pickA rfl rfl (fun hq => gs_t (geqT hq)) rfl) (RG.bl rfl rfl rfl ?_)
         refine RG.gs rfl rfl rfl (fun hp => (PV.mvI (.inl rfl) rfl)) ?_
         refine RG.gs rfl rfl rfl (fun hp => (PV.eql rfl (gs_t hp) rfl)) ?_
         refine RG.pv rfl (PV.pickA rfl rfl (fun hq => gs_t (geqT hq)) rfl) (RG.nil ?_)
         refine WP.cond rfl (fun h6 => ?_) (fun h6 => ?_)
         · refine WP.seq ?_
           refine WP.region (RG.pv rfl (PV.move (v := v) rfl rfl) (RG.ml rfl rfl rfl (RG.ml rfl rfl rfl (RG.pv rfl (PV.move (v := fv) rfl rfl) ?_))))
           refine RG.callF (vs := [v, _, _, fv]) rfl rfl En229 rfl (partialIns_rss (Rs.up h1) (by omega) (by omega) (by omega) (fun i j hi hj => (hf i j hi hj).up) hs ?_)
           refine RG.nil ?_
           refine WP.cond rfl (fun h7 => ?_) (fun h7 => ?_)
           · refine WP.ret ?_
             exact ⟨_, _, ResV.zero rfl, Cv.p, k⟩
           · skip
             exact absurd h7 (by decide)
         · exact absurd h6 (by decide)
theorem sorted_rss {v fv : Value} {xs : List (Sl Rect)} {cf : Nat → Nat → Int} (hl : xs.length ≤ 6400) (h1 : Rs G L slT v xs) (hf : ∀ i j, i < xs.length → j < xs.length → CB Tryz.prog G L fv [Sl.v (gd xs i), Sl.v (gd xs j)] (vi (cf i j))) (hs : ∀ i j, i < j → j < xs.length → ¬ cf j i < 0) (k : R (.tuple #[]) G L) : CallT Tryz.prog 170 #[v, fv] G L R := by
 refine CallT.bd h1 fun hbd => ?_
 refine CallT.enter (args := _) Tryz.func170 rfl rfl (by kernel_rfl) rfl ?_
 refine WP.seq (WP.region (RG.pv rfl (PV.move (v := v) rfl rfl) (RG.pv rfl (PV.len (v := v) rfl Tryz.underlying47 rfl (SlF.r h1)) (RG.mr rfl rfl rfl (RG.nil (WP.region (RG.pv rfl (PV.move (v := v) rfl rfl) ?_)))))))
 refine RG.ml rfl rfl rfl (RG.ml rfl rfl rfl (RG.pv rfl (PV.conv rfl ⟨_, Tryz.underlying3⟩ Tryz.underlying100 rfl rfl) ?_))
 refine RG.callF (vs := [_]) rfl rfl En127 rfl (bitsLen_s (by rw [u64w (by omega)]; omega) (fun lw11 hl0w11 => ?_))
 refine RG.pv rfl (PV.move (v := fv) rfl rfl) ?_
 refine RG.callF (vs := [v, _, _, _, fv]) rfl rfl En209 rfl (pdq_rss (by omega) (Rs.up h1) rfl (fun h => hl0w11 (by rw [u64w (by omega)]; omega)) (fun i j hi hj => (hf i j hi hj).up) hs ?_)
 refine RG.nil ?_
 exact ⟨_, _, ResV.zero rfl, Cv.p, k⟩
end Go.Proofs.YthhjapiggekjbaaGreat
namespace Go.Proofs.YthhjapiggekjbaaGreat
set_option linter.unusedVariables false
set_option linter.unusedSimpArgs false
open Go
set_option maxRecDepth 20000
set_option linter.unusedSimpArgs false
variable {G : Gh} {L : List Ch} {R : Value → Gh → List Ch → Prop}
/-- the source in block b over the code cv -/
def src (b : Nat) (cv : Value) : Ch := fun h => ∃ p : Int × Int, (0 ≤ p.1 ∧ 0 ≤ p.2 ∧ p.2 < 2147483647) ∧ blk b 202 [cv, vi p.1, vi p.2] h
theorem Sep.ex {A : Type} {p : A → Prop} {c : A → Ch} {L : List Ch} {h : Hp} (s : Sep ((fun h => ∃ a, p a ∧ c a h) :: L) h) : ∃ a, p a ∧ Sep (c a :: L) h := by
 obtain ⟨h1, h2, d, l1, l2, ⟨a, ha, hc⟩, s⟩ := s
 exact ⟨a, ha, h1, h2, d, l1, l2, hc, s⟩
theorem CallT.exi {A : Type} {P : Program} {f : FuncId} {args : Array Value} {p : A → Prop} {c : A → Ch} (h : ∀ a, p a → CallT P f args G (c a :: L) R) : CallT P f args G ((fun h => ∃ a, p a ∧ c a h) :: L) R :=
 CallT.of fun w ⟨hp, s, rest⟩ => by
   obtain ⟨a, ha, s⟩ := s.ex
   exact (h a ha).run ⟨hp, s, rest⟩
theorem WP.exi {A : Type} {P : Program} {n : Nat} {c0 : Code} {Q : Post} {σ : Nat → Value} {p : A → Prop} {c : A → Ch} (h : ∀ a, p a → WP P n c0 Q σ G (c a :: L)) : WP P n c0 Q σ G ((fun h => ∃ a, p a ∧ c a h) :: L) :=
 WP.of fun hk x w hx ⟨hp, s, rest⟩ => by
   obtain ⟨a, ha, s⟩ := s.ex
   exact (h a ha).run hk hx ⟨hp, s, rest⟩
theorem Cv.src {b : Nat} {cv : Value} {x y : Int} {L : List Ch} (h : 0 ≤ x ∧ 0 ≤ y ∧ y < 2147483647) : Cv (blk b 202 [cv, vi x, vi y] :: L) (src b cv :: L) := Cv.imp fun hp hc => ⟨(x, y), h, hc⟩
theorem next_s {b : Nat} {n : Int} {cv : Value} {bs : List UInt8} (hcode : SL G byteT cv bs) (hn : n ≤ 4611686018427387904) (k : ∀ r, 0 ≤ r ∧ (r < n ∨ r = 0) → R (vi r) G (src b cv :: L)) : CallT Tryz.prog 80 #[.pointer (some ⟨b, 0, none⟩), vi n] G (src b cv :: L) R := by
 refine CallT.exi fun ⟨x, y⟩ ⟨hx, hy0, hy1⟩ => ?_
 have hbl := hcode.bound
 refine CallT.enter (args := _) Tryz.func80 rfl rfl (by kernel_rfl) rfl ?_
 refine WP.seq (WP.region (RG.mr rfl rfl rfl (RG.nil (WP.seq (WP.seq (WP.region (RG.ml rfl rfl rfl ?_)))))))
 refine RG.pv rfl (PV.leq rfl rfl rfl) (RG.nil ?_)
 refine WP.cond rfl (fun h1 => ?_) (fun h1 => ?_)
 · refine WP.seq ?_
   refine WP.region (RG.mr rfl rfl rfl (RG.nil ?_))
   refine WP.ret ?_
   exact ⟨_, _, ResV.one rfl rfl, (Cv.src ⟨hx, hy0, hy1⟩), k _ ⟨by omega, .inr rfl⟩⟩
 · have h1 := of_decide_eq_false h1
   refine WP.skip (WP.seq (WP.seq ?_))
   refine WP.regionQ (by kernel_rfl) (by kernel_rfl) ?_
   refine RQ.pv rfl (PV.mvP (.inl rfl) rfl) ?_
   refine RQ.pv rfl (PV.nilc rfl rfl) ?_
   refine RQ.pv rfl (PV.field rfl Fo202_1 rfl) ?_
   refine RQ.pv rfl (PV.load1 rfl Sc3 rfl (Rd.blk rfl)) ?_
   refine RQ.pv rfl (PV.mvP (.inl rfl) rfl) ?_
   refine RQ.pv rfl (PV.nilc rfl rfl) ?_
   refine RQ.pv rfl (PV.field rfl Fo202_0 rfl) ?_
   refine RQ.pv rfl (PV.load1 rfl Sc40 rfl (Rd.blk rfl)) ?_
   refine RQ.pv rfl (PV.len rfl Tryz.underlying40 rfl (SlF.r (Rs.g (L := []) hcode))) ?_
   refine RQ.pv rfl (PV.lss rfl rfl rfl) ?_
   refine RQ.nil ?_
   refine WP.cond rfl (fun h2 => ?_) (fun h2 => ?_)
   · have h2 := of_decide_eq_true h2
     have hc := (gd bs x.toNat).toNat_lt
     refine WP.seq ?_
     refine WP.regionQ (by kernel_rfl) (by kernel_rfl) ?_
     refine RQ.pv rfl (PV.mvP (.inl rfl) rfl) ?_
     refine RQ.pv rfl (PV.nilc rfl rfl) ?_
     refine RQ.pv rfl (PV.field rfl Fo202_0 rfl) ?_
     refine RQ.pv rfl (PV.load1 rfl Sc40 rfl (Rd.blk rfl)) ?_
     refine RQ.pv rfl (PV.mvP (.inl rfl) rfl) ?_
     refine RQ.pv rfl (PV.nilc rfl rfl) ?_
     refine RQ.pv rfl (PV.field rfl Fo202_1 rfl) ?_
     refine RQ.pv rfl (PV.load1 rfl Sc3 rfl (Rd.blk rfl)) ?_
     refine RQ.pv rfl (PV.idxS (j := x.toNat) rfl Is40 rfl (SlF.r (Rs.g (L := []) hcode)) rfl (by omega) (by omega)) ?_
     refine RQ.pv rfl (PV.loadE1 rfl Sc5 rfl rfl (El.r (Rs.g (L := []) hcode) (getG (by omega))) rfl) ?_
     refine RQ.pv rfl (PV.conv rfl ⟨_, Tryz.underlying5⟩ Tryz.underlying2 rfl (u8i _)) ?_
     refine RQ.pv rfl (PV.mvI (.inr rfl) rfl) ?_
     refine RQ.nil ?_
     refine WP.seq (WP.region (RG.pv rfl (PV.mvP (.inl rfl) rfl) (RG.pv rfl (PV.nilc rfl rfl) (RG.pv rfl (PV.field rfl Fo202_1 rfl) (RG.pv rfl (PV.load1 rfl Sc3 rfl (Rd.blk rfl)) (RG.pv rfl (PV.add rfl rfl rfl (by first | omega | exact u8add (by omega))) (RG.pv rfl (PV.nilc rfl rfl) ?_)))))))
     refine RG.pv rfl (PV.field rfl Fo202_1 rfl) ?_
     refine RG.ot rfl (OT.storeB (vs := [vi _]) (cs' := [_, _, _]) rfl Sz3 rfl rfl (Cl.c rfl) rfl (OneC.c rfl) rfl rfl ?_)
     refine RG.nil (WP.seq (WP.seq (WP.region (RG.ml rfl rfl rfl (RG.pv rfl (PV.gtr rfl rfl rfl) (RG.nil ?_))))))
     refine WP.cond rfl (fun h3 => ?_) (fun h3 => ?_)
     · refine WP.seq ?_
       refine WP.region (RG.pv rfl (PV.mvP (.inl rfl) rfl) (RG.pv rfl (PV.mvP (.inl rfl) rfl) (RG.pv rfl (PV.nilc rfl rfl) (RG.pv rfl (PV.field rfl Fo202_2 rfl) (RG.pv rfl (PV.load1 rfl Sc2 rfl (Rd.blk rfl)) (RG.pv rfl (PV.mul rfl rfl rfl (by omega)) (RG.ml rfl rfl rfl ?_)))))))
       refine RG.pv rfl (PV.add rfl rfl rfl (by first | omega | exact u8add (by omega))) (RG.pv rfl (PV.add rfl rfl rfl (by first | omega | exact u8add (by omega))) (RG.pv rfl (PV.rem rfl rfl rfl (by omega) (by omega) (by omega)) (RG.pv rfl (PV.nilc rfl rfl) (RG.pv rfl (PV.field rfl Fo202_2 rfl) ?_))))
       refine RG.ot rfl (OT.storeB (vs := [vi _]) (cs' := [_, _, _]) rfl Sz2 rfl rfl (Cl.c rfl) rfl (OneC.c rfl) rfl rfl ?_)
       refine RG.nil (WP.seq (WP.region (RG.pv rfl (PV.mvP (.inl rfl) rfl) (RG.pv rfl (PV.nilc rfl rfl) (RG.pv rfl (PV.field rfl Fo202_2 rfl) (RG.pv rfl (PV.load1 rfl Sc2 rfl (Rd.blk rfl)) (RG.ml rfl rfl rfl ?_)))))))
       refine RG.pv rfl (PV.rem rfl rfl rfl (by omega) (by omega) (by omega)) (RG.mr rfl rfl rfl (RG.nil ?_))
       refine WP.ret ?_
       exact ⟨_, _, ResV.one rfl rfl, (Cv.src ⟨by omega, by omega, by omega⟩), k _ ⟨Int.emod_nonneg _ (by omega), .inl (Int.emod_lt_of_pos _ (by omega))⟩⟩
     · refine WP.skip ?_
       refine WP.seq (WP.region (RG.ml rfl rfl rfl (RG.ml rfl rfl rfl (RG.pv rfl (PV.rem rfl rfl rfl (by omega) (by omega) (by omega)) (RG.mr rfl rfl rfl (RG.nil ?_))))))
       refine WP.ret ?_
       exact ⟨_, _, ResV.one rfl rfl, (Cv.src ⟨by omega, by omega, by omega⟩), k _ ⟨Int.emod_nonneg _ (by omega), .inl (Int.emod_lt_of_pos _ (by omega))⟩⟩
   · refine WP.skip ?_
     refine WP.seq (WP.region (RG.pv rfl (PV.mvP (.inl rfl) rfl) (RG.pv rfl (PV.mvP (.inl rfl) rfl) (RG.pv rfl (PV.nilc rfl rfl) (RG.pv rfl (PV.field rfl Fo202_2 rfl) (RG.pv rfl (PV.load1 rfl Sc2 rfl (Rd.blk rfl)) (RG.pv rfl (PV.mul rfl rfl rfl (by omega)) ?_)))))))
     refine RG.pv rfl (PV.add rfl rfl rfl (by omega)) (RG.pv rfl (PV.rem rfl rfl rfl (by omega) (by omega) (by omega)) (RG.pv rfl (PV.nilc rfl rfl) (RG.pv rfl (PV.field rfl Fo202_2 rfl) ?_)))
     refine RG.ot rfl (OT.storeB (vs := [vi _]) (cs' := [_, _, _]) rfl Sz2 rfl rfl (Cl.c rfl) rfl (OneC.c rfl) rfl rfl ?_)
     refine RG.nil (WP.seq (WP.region (RG.pv rfl (PV.mvP (.inl rfl) rfl) (RG.pv rfl (PV.nilc rfl rfl) (RG.pv rfl (PV.field rfl Fo202_2 rfl) (RG.pv rfl (PV.load1 rfl Sc2 rfl (Rd.blk rfl)) (RG.pv rfl (PV.quo rfl rfl rfl (by omega) (by omega) (by omega)) ?_)))))))
     refine RG.ml rfl rfl rfl (RG.pv rfl (PV.rem rfl rfl rfl (by omega) (by omega) (by omega)) (RG.mr rfl rfl rfl (RG.nil ?_)))
     refine WP.ret ?_
     exact ⟨_, _, ResV.one rfl rfl, (Cv.src ⟨by omega, by omega, by omega⟩), k _ ⟨Int.emod_nonneg _ (by omega), .inl (Int.emod_lt_of_pos _ (by omega))⟩⟩
theorem from_s {cv : Value} {bs : List UInt8} (hcode : SL G byteT cv bs) (k : ∀ b, R (.pointer (some ⟨b, 0, none⟩)) G (src b cv :: L)) : CallT Tryz.prog 78 #[cv] G L R := by
 have hbl := hcode.bound
 refine CallT.enter (args := _) Tryz.func78 rfl rfl (by kernel_rfl) rfl ?_
 refine WP.seq (WP.region (RG.pv rfl (PV.asg rfl rfl) (RG.nil (WP.seq (WP.region (RG.pv rfl (PV.move (v := cv) rfl rfl) (RG.pv rfl (PV.build (vs := [(0, [cv]), (2, [vi _])]) (out := [_, _, _]) rfl Zr202 Pl202 ⟨rfl, (Cl.s (SlF.r (Rs.g (L := []) hcode))), ⟨rfl, (Cl.c rfl), trivial⟩⟩ rfl) ?_)))))))
 refine RG.ot rfl (OT.box (cs := [cv, vi 0, vi 12345]) rfl rfl rfl fun b7 => ?_)
 refine RG.pv rfl (PV.mvP (.inr rfl) rfl) (RG.nil (WP.seq (WP.seq (WP.region (RG.mr rfl rfl rfl (RG.nil (WP.block ?_)))))))
 refine WP.loop2 [0, 3] (fun (i : Nat) (y : Int) => i ≤ 64 ∧ 0 ≤ y ∧ y < 2147483647) (fun (i : Nat) (y : Int) => [(4, vi i)]) (fun (i : Nat) (y : Int) => blk b7 202 [cv, vi 0, vi y] :: L) (fun (i : Nat) (y : Int) => 64 - i) 0 12345 ⟨by omega, by omega, by omega⟩ ⟨rfl, trivial⟩ Cv.p ?_
 rintro i y τ ⟨hi, hy0, hy1⟩
 refine WP.seq (WP.seq (WP.region (RG.ml rfl rfl rfl (RG.pv rfl (PV.move (v := cv) rfl rfl) (RG.pv rfl (PV.len (v := cv) rfl Tryz.underlying40 rfl (SlF.r (Rs.g (L := []) hcode))) (RG.pv rfl (PV.lss rfl rfl rfl) (RG.bl rfl rfl rfl ?_)))))))
 refine RG.gs rfl rfl rfl (fun hp => (PV.mvI (.inl rfl) rfl)) ?_
 refine RG.gs rfl rfl rfl (fun hp => (PV.lss rfl (gs_t hp) rfl)) ?_
 refine RG.pv rfl (PV.pickA rfl rfl (fun hq => gs_t (geqT hq)) rfl) (RG.nil ?_)
 refine WP.cond rfl (fun h2 => ?_) (fun h2 => ?_)
 · simp only [Bool.and_eq_true, decide_eq_true_eq] at h2
   have hc := (gd bs i).toNat_lt
   refine WP.skip (WP.seq (WP.block ?_))
   refine WP.regionHD [.b b7] (.q 0 (.q 1 (.q 2 (.q 3 (.q 6 (.q 7 (.q 8 (.q 9 (.q 10 (.l 4 (.q 5 (.q 11 (.q 12 (.q 13 (.q 14 (.l 15 Sch.nil)))))))))))))))) (by kernel_rfl) (by kernel_rfl) (by kernel_rfl) rfl ?_
   refine RH.pv rfl (fun _ _ _ _ h => h) (Gh.le_refl _) PickC.pick rfl (PV.mvP (.inl rfl) rfl) ?_
   refine RH.pv rfl (fun _ _ _ _ h => h) (Gh.le_refl _) PickC.pick rfl (PV.mvP (.inl rfl) rfl) ?_
   refine RH.pv rfl (fun _ _ _ _ h => h) (Gh.le_refl _) PickC.pick rfl (PV.nilc rfl rfl) ?_
   refine RH.pv rfl (fun _ _ _ _ h => h) (Gh.le_refl _) PickC.pick rfl (PV.field rfl Fo202_2 rfl) ?_
   refine RH.pv rfl (fun _ _ _ _ h => h) (Gh.le_refl _) PickC.pick rfl (PV.move (v := cv) rfl rfl) ?_
   refine RH.pv rfl (fun _ _ _ _ h => h) (Gh.le_refl _) PickC.pick rfl (PV.mvI (.inl rfl) rfl) ?_
   refine RH.pv rfl (fun _ _ _ _ h => h) (Gh.le_refl _) PickC.pick rfl (PV.idxS (v := cv) rfl Is40 rfl (SlF.r (Rs.g (L := []) hcode)) rfl rfl (by omega)) ?_
   refine RH.pv rfl (fun _ _ _ _ h => h) (Gh.le_refl _) PickC.pick rfl (PV.loadE1 rfl Sc5 rfl rfl (El.r (Rs.g (L := []) hcode) (getG (by omega))) rfl) ?_
   refine RH.pv rfl (fun _ _ _ _ h => h) (Gh.le_refl _) PickC.pick rfl (PV.conv rfl ⟨_, Tryz.underlying5⟩ Tryz.underlying2 rfl (u8i _)) ?_
   refine RH.ot rfl rfl (OT.pv (PV.load1 rfl Sc2 rfl (Rd.blk rfl)) ⟨Gh.le_refl _, PickC.pick, ?_⟩)
   refine RH.pv rfl (fun _ _ _ _ h => h) (Gh.le_refl _) PickC.pick rfl (PV.mul rfl rfl rfl (by omega)) ?_
   refine RH.pv rfl (fun _ _ _ _ h => h) (Gh.le_refl _) PickC.pick rfl (PV.add rfl rfl rfl (by first | omega | exact u8add (by omega))) ?_
   refine RH.pv rfl (fun _ _ _ _ h => h) (Gh.le_refl _) PickC.pick rfl (PV.rem rfl rfl rfl (by omega) (by omega) (by omega)) ?_
   refine RH.pv rfl (fun _ _ _ _ h => h) (Gh.le_refl _) PickC.pick rfl (PV.nilc rfl rfl) ?_
   refine RH.pv rfl (fun _ _ _ _ h => h) (Gh.le_refl _) PickC.pick rfl (PV.field rfl Fo202_2 rfl) ?_
   refine RH.ot rfl rfl (OT.storeB (vs := [vi _]) (cs' := [_, _, _]) rfl Sz2 rfl rfl (Cl.c rfl) rfl (OneC.c rfl) rfl rfl ⟨Gh.le_refl _, PickC.pick, ?_⟩)
   refine RH.nil ?_
   refine WP.region (RG.ml rfl rfl rfl (RG.pv rfl (PV.add rfl rfl rfl (by first | omega | exact u8add (by omega))) (RG.mr rfl rfl rfl (RG.nil ?_))))
   exact ⟨rfl, i + 1, ((y * 31 + ((gd bs i).toNat : Int)) % 2147483647), ⟨by omega, by omega, by omega⟩, ⟨rfl, trivial⟩, ⟨rfl, rfl, trivial⟩, Cv.p, by omega⟩
 · refine WP.exit ?_
   refine WP.seq (WP.region (RG.pv rfl (PV.mvP (.inl rfl) rfl) (RG.pv rfl (PV.mvP (.inr rfl) rfl) (RG.nil ?_))))
   refine WP.ret ?_
   exact ⟨_, _, ResV.one rfl rfl, (Cv.src ⟨by omega, hy0, hy1⟩), k b7⟩
end Go.Proofs.YthhjapiggekjbaaGreat
namespace Go.Proofs.YthhjapiggekjbaaGreat
set_option linter.unusedVariables false
set_option linter.unusedSimpArgs false
open Go
theorem runsFrom_first (r : Nat → Bool) (X : Nat) (hX : X < 80) (hr : r X = true) (x : Nat) (hx : x ≤ X) (h0 : ∀ z, x ≤ z → z < X → r z = false) : ∃ e l, runsFrom r x = (X, e) :: l := by
 rw [runsFrom, if_pos (by omega)]
 by_cases e : x = X
 · subst e; rw [if_pos hr]; exact ⟨_, _, rfl⟩
 · rw [if_neg (by simp [h0 x (Nat.le_refl _) (by omega)])]
   exact runsFrom_first r X hX hr (x + 1) (by omega) fun z h1 h2 => h0 z (by omega) h2
termination_by 80 - x
theorem runsFrom_none (r : Nat → Bool) (x : Nat) (h0 : ∀ z, x ≤ z → z < 80 → r z = false) : runsFrom r x = [] := by
 rw [runsFrom]; split
 · rename_i h
   rw [if_neg (by simp [h0 x (Nat.le_refl _) h])]
   exact runsFrom_none r (x + 1) fun z h1 h2 => h0 z (by omega) h2
 · rfl
termination_by 80 - x
theorem canonFrom_first (bs : List Bool) (Y X : Nat) (hY : Y < 80) (hX : X < 80) (hb : gb bs Y X = true) (hx : ∀ z, z < X → gb bs Y z = false) (y : Nat) (hy : y ≤ Y) (h0 : ∀ z x, y ≤ z → z < Y → x < 80 → gb bs z x = false) : ∃ e f l, canonFrom bs y = mkR Y e (X, f) :: l := by
 rw [canonFrom, if_pos (by omega)]
 by_cases e : y = Y
 · subst e
   obtain ⟨f, l, hf⟩ := runsFrom_first (gb bs y) X hX hb 0 (by omega) fun z _ h => hx z h
   rw [hf]; exact ⟨_, _, _, rfl⟩
 · rw [runsFrom_none (gb bs y) 0 fun z _ h => h0 y z (Nat.le_refl _) (by omega) h, List.map_nil, List.nil_append]
   have h1 := endFrom_ge bs y (y + 1)
   have h2 : endFrom bs y (y + 1) ≤ Y := by
     by_cases c : endFrom bs y (y + 1) ≤ Y
     · exact c
     · have h3 := rowsEq_gb' (endFrom_eq bs y (y + 1) Y (by omega) (by omega)) X hX
       rw [hb, h0 y X (Nat.le_refl _) (by omega) hX] at h3; cases h3
   exact canonFrom_first bs Y X hY hX hb hx (endFrom bs y (y + 1)) h2 fun z x h3 h4 h5 => h0 z x (by omega) h4 h5
termination_by 80 - y
/-- the first rectangle of a part begins at its first cell -/
theorem canon_first {S : List Bool} {n : Nat} (h : First S n) : 0 < (canon (compB S (cel n))).length ∧ (gd (canon (compB S (cel n))) 0).y0 = ((n / 80 : Nat) : Int) - 40 ∧ (gd (canon (compB S (cel n))) 0).x0 = ((n % 80 : Nat) : Int) - 40 := by
 obtain ⟨h1, h2⟩ := h
 have hY : n / 80 < 80 := h1.1
 have hX : n % 80 < 80 := h1.2.1
 have key : ∀ y x, y < 80 → x < 80 → y * 80 + x < n → gb (compB S (cel n)) y x = false := fun y x hy hx hlt => by
   cases hg : gb (compB S (cel n)) y x with
   | false => rfl
   | true =>
     exfalso
     have hc := (comp_iff hy hx).1 hg
     have hon := hc.on h1
     have e : cel (y * 80 + x) = (y, x) := cel_pos (a := (y, x)) hx
     exact h2 _ hlt (by rw [e]; exact hon) (by rw [e]; exact hc.symm h1)
 have hb : gb (compB S (cel n)) (n / 80) (n % 80) = true := (comp_iff hY hX).2 .refl
 obtain ⟨e, f, l, hc⟩ := canonFrom_first (compB S (cel n)) (n / 80) (n % 80) hY hX hb (fun z hz => key _ _ hY (by omega) (by omega)) 0 (by omega) fun z x _ hz hx => key z x (by omega) hx (by omega)
 rw [canon, hc]
 refine ⟨by simp, ?_, ?_⟩ <;> simp [gd, mkR]
structure PI {β : Type} (f : List Bool → β) (S : List Bool) (n : Nat) (T : List Bool) (zs : List β) : Prop where
  len : T.length = 6400
  left : ∀ a, On T a ↔ Left S n a
  er : zs = (firsts S n).map fun j => f (compB S (cel j))
theorem PI.start {β : Type} {f : List Bool → β} {S : List Bool} (h : S.length = 6400) : PI f S 0 S [] := ⟨h, fun _ => left_zero.symm, rfl⟩
theorem on_cel {T : List Bool} {n : Nat} (hn : n < 6400) : On T (cel n) ↔ gb T (n / 80) (n % 80) = true := ⟨fun h => h.2.2, fun h => ⟨by simp only [cel]; omega, by simp only [cel]; omega, h⟩⟩
theorem PI.skip {β : Type} {f : List Bool → β} {S T : List Bool} {n : Nat} {zs : List β} (h : PI f S n T zs) (hn : n < 6400) (hg : gb T (n / 80) (n % 80) = false) : PI f S (n + 1) T zs := by
 have hf : ¬ First S n := fun hf => by
   have := (on_cel hn).1 ((h.left _).2 (left_first.2 hf)); rw [hg] at this; cases this
 refine ⟨h.len, fun a => (h.left a).trans (left_succ_skip hf).symm, ?_⟩
 rw [firsts_succ, if_neg hf]; exact h.er
theorem PI.first {β : Type} {f : List Bool → β} {S T : List Bool} {n : Nat} {zs : List β} (h : PI f S n T zs) (hn : n < 6400) (hg : gb T (n / 80) (n % 80) = true) : First S n := left_first.1 ((h.left _).1 ((on_cel hn).2 hg))
theorem PI.comp {β : Type} {f : List Bool → β} {S T : List Bool} {n : Nat} {zs : List β} (h : PI f S n T zs) (hn : n < 6400) (hg : gb T (n / 80) (n % 80) = true) : compB T (cel n) = compB S (cel n) := comp_left h.left (left_first.2 (h.first hn hg))
theorem PI.take {β : Type} {f : List Bool → β} {S T T' : List Bool} {n : Nat} {zs : List β} (h : PI f S n T zs) (hn : n < 6400) (hg : gb T (n / 80) (n % 80) = true) (hl : T'.length = 6400) (hg' : ∀ y x, y < 80 → x < 80 → gb T' y x = (gb T y x && !gb (compB T (cel n)) y x)) : PI f S (n + 1) T' (zs ++ [f (compB T (cel n))]) := by
 have hf := h.first hn hg
 have hc := h.comp hn hg
 refine ⟨hl, fun a => ?_, ?_⟩
 · rw [left_succ_take hf, ← h.left a]
   constructor
   · rintro ⟨h1, h2, h3⟩
     rw [hg' _ _ h1 h2, Bool.and_eq_true, Bool.not_eq_true', hc] at h3
     refine ⟨⟨h1, h2, h3.1⟩, fun k => ?_⟩
     have := (comp_iff h1 h2).2 k; rw [h3.2] at this; cases this
   · rintro ⟨⟨h1, h2, h3⟩, h4⟩
     refine ⟨h1, h2, ?_⟩
     rw [hg' _ _ h1 h2, h3, hc, Bool.true_and, Bool.not_eq_true']
     cases hb : gb (compB S (cel n)) a.1 a.2 with
     | false => rfl
     | true => exact absurd ((comp_iff h1 h2).1 hb) h4
 · rw [firsts_succ, if_pos hf, List.map_append, ← h.er, hc]; rfl
noncomputable def partsL (S : List Bool) : List (List Rect) := (comps S).map canon
theorem PI.all {S T : List Bool} {zs : List (List Bool)} (h : PI id S 6400 T zs) : zs = comps S := by
 rw [h.er, comps]; simp only [id]
theorem PI.final {S T : List Bool} {zs : List (List Rect)} (h : PI canon S 6400 T zs) : zs = partsL S := by
 rw [h.er, partsL, comps, List.map_map]; simp only [Function.comp_def]
open Classical in
theorem firsts_sorted (S : List Bool) (n : Nat) : (firsts S n).Pairwise (· < ·) := List.Pairwise.filter _ List.pairwise_lt_range
theorem firsts_lt {S : List Bool} {n i j : Nat} (h : i < j) (hj : j < (firsts S n).length) : gd (firsts S n) i < gd (firsts S n) j := by
 rw [gd_eq hj, gd_eq (by omega)]
 exact List.pairwise_iff_getElem.1 (firsts_sorted S n) i j (by omega) hj h
open Classical in
theorem firsts_first {S : List Bool} {n i : Nat} (hi : i < (firsts S n).length) : First S (gd (firsts S n) i) := by
 rw [gd_eq hi]
 have := List.getElem_mem hi
 have := (List.mem_filter.1 this).2
 simpa using this
theorem partsL_len (S : List Bool) : (partsL S).length = (firsts S 6400).length := by simp [partsL, comps]
open Classical in
theorem firsts_len (S : List Bool) (n : Nat) : (firsts S n).length ≤ n := by
 have := List.length_filter_le (fun j => decide (First S j)) (List.range n)
 simpa [firsts] using this
theorem partsL_gd {S : List Bool} {i : Nat} (hi : i < (firsts S 6400).length) : gd (partsL S) i = canon (compB S (cel (gd (firsts S 6400) i))) := by
 rw [gd_eq (by rw [partsL_len]; exact hi), gd_eq hi]; simp [partsL, comps]
/-- a part is taken away, cell by cell -/
def Sub (T C : List Bool) (n : Nat) (U : List Bool) : Prop := U.length = 6400 ∧ ∀ y x, y < 80 → x < 80 → gb U y x = if y * 80 + x < n then (gb T y x && !gb C y x) else gb T y x
theorem Sub.start {T C : List Bool} (h : T.length = 6400) : Sub T C 0 T := ⟨h, fun y x _ _ => by rw [if_neg (by omega)]⟩
theorem Sub.step {T C U : List Bool} {v u m : Nat} (h : Sub T C (v * 80 + u) U) (hv : v < 80) (hu : u < 80) (hm : m = v * 80 + u + 1) : Sub T C m (U.set (0 + v * 80 + u * 1) (gd U (0 + v * 80 + u * 1) && !gd C (0 + v * 80 + u * 1))) := by
 subst hm
 obtain ⟨h1, h2⟩ := h
 refine ⟨by simpa using h1, fun y x hy hx => ?_⟩
 rw [show 0 + v * 80 + u * 1 = v * 80 + u by omega, gb_set' h1 hv hu hx]
 by_cases e : y = v ∧ x = u
 · obtain ⟨rfl, rfl⟩ := e
   rw [if_pos ⟨rfl, rfl⟩, if_pos (by omega)]
   have := h2 y x hv hu
   rw [if_neg (by omega)] at this
   show (gb U y x && !gb C y x) = _
   rw [this]
 · rw [if_neg e, h2 y x hy hx]
   by_cases c : y * 80 + x < v * 80 + u
   · rw [if_pos c, if_pos (by omega)]
   · rw [if_neg c, if_neg (by omega)]
theorem Sub.final {T C U : List Bool} (h : Sub T C 6400 U) : ∀ y x, y < 80 → x < 80 → gb U y x = (gb T y x && !gb C y x) := fun y x hy hx => by
 rw [h.2 y x hy hx, if_pos (by omega)]
def dX (d : Nat) : Int := gd [1, -1, 0, 0] d
def dY (d : Nat) : Int := gd [0, 0, 1, -1] d
def Near4 (S O : List Bool) (p : Cel) (d : Nat) : Prop := ∀ e, e < d → ∀ c : Cel, (c.1 : Int) = p.1 + dY e → (c.2 : Int) = p.2 + dX e → On S c → On O c
theorem Near4.zero (S O : List Bool) (p : Cel) : Near4 S O p 0 := fun e h => by omega
theorem Near4.done {S O : List Bool} {p : Cel} (h : Near4 S O p 4) : ∀ c, Adj p c → On S c → On O c := fun c ha hs => by
 rcases ha with ⟨h1, h2 | h2⟩ | ⟨h1, h2 | h2⟩
 · exact h 1 (by omega) c (by simp [dY, gd]; omega) (by simp [dX, gd]; omega) hs
 · exact h 0 (by omega) c (by simp [dY, gd]; omega) (by simp [dX, gd]; omega) hs
 · exact h 3 (by omega) c (by simp [dY, gd]; omega) (by simp [dX, gd]; omega) hs
 · exact h 2 (by omega) c (by simp [dY, gd]; omega) (by simp [dX, gd]; omega) hs
theorem Near4.step {S O O' : List Bool} {p : Cel} {d : Nat} (h : Near4 S O p d) (hO : ∀ c, On O c → On O' c) (hn : ∀ c : Cel, (c.1 : Int) = p.1 + dY d → (c.2 : Int) = p.2 + dX d → On S c → On O' c) : Near4 S O' p (d + 1) := fun e he c h1 h2 hs => by
 by_cases k : e = d
 · subst k; exact hn c h1 h2 hs
 · exact hO c (h e (by omega) c h1 h2 hs)
theorem Near4.skip {S O : List Bool} {q : Int × Int} {d : Nat} (h : Near4 S O (qc q) d) (hb : 0 ≤ q.1 ∧ q.1 < 80 ∧ 0 ≤ q.2 ∧ q.2 < 80) (hc : ¬ (0 ≤ q.1 + dX d ∧ q.1 + dX d < 80 ∧ 0 ≤ q.2 + dY d ∧ q.2 + dY d < 80) ∨ gb S (q.2 + dY d).toNat (q.1 + dX d).toNat = false ∨ gb O (q.2 + dY d).toNat (q.1 + dX d).toNat = true) : Near4 S O (qc q) (d + 1) :=
 h.step (fun _ h => h) fun c e1 e2 hs => by
   obtain ⟨c1, c2⟩ := c
   obtain ⟨h1, h2, h3⟩ := hs
   simp only [qc] at *
   have e3 : c1 = (q.2 + dY d).toNat := by omega
   have e4 : c2 = (q.1 + dX d).toNat := by omega
   rcases hc with k | k | k
   · omega
   · rw [← e3, ← e4, h3] at k; cases k
   · exact ⟨h1, h2, by rw [e3, e4]; exact k⟩
theorem Near4.take {S O : List Bool} {q : Int × Int} {d : Nat} (h : Near4 S O (qc q) d) (hl : O.length = 6400) (hb : 0 ≤ q.1 ∧ q.1 < 80 ∧ 0 ≤ q.2 ∧ q.2 < 80) (hx : 0 ≤ q.1 + dX d ∧ q.1 + dX d < 80) (hy : 0 ≤ q.2 + dY d ∧ q.2 + dY d < 80) : Near4 S (O.set ((q.2 + dY d).toNat * 80 + (q.1 + dX d).toNat) true) (qc q) (d + 1) :=
 h.step (fun c hc => on_set hl hx hy hc) fun c e1 e2 hs => by
   obtain ⟨c1, c2⟩ := c
   obtain ⟨h1, h2, h3⟩ := hs
   simp only [qc] at *
   have e3 : c1 = (q.2 + dY d).toNat := by omega
   have e4 : c2 = (q.1 + dX d).toNat := by omega
   refine ⟨h1, h2, ?_⟩
   rw [gb_set' hl (by omega) (by omega) h2, if_pos ⟨e3, e4⟩]
end Go.Proofs.YthhjapiggekjbaaGreat
namespace Go.Proofs.YthhjapiggekjbaaGreat
set_option linter.unusedVariables false
set_option linter.unusedSimpArgs false
open Go
set_option maxRecDepth 20000
set_option linter.unusedSimpArgs false
variable {G : Gh} {L : List Ch} {R : Value → Gh → List Ch → Prop}
def cmpI (x y : Int) : Int := if x < y then -1 else if y < x then 1 else 0
def orI : List Int → Int
  | [] => 0
  | x :: l => if x ≠ 0 then x else orI l
def cmpR (a b : Rect) : Int := orI [cmpI a.y0 b.y0, cmpI a.x0 b.x0, cmpI a.y1 b.y1, cmpI a.x1 b.x1]
theorem orI_zero : ∀ {xs : List Int} {i : Nat}, (∀ j, j < i → gd xs j = 0) → orI xs = orI (xs.drop i)
 | xs, 0, _ => by simp
 | [], i + 1, _ => by simp
 | x :: xs, i + 1, h => by
   have h0 : x = 0 := by have := h 0 (by omega); simpa [gd] using this
   rw [List.drop_succ_cons, orI, if_neg (by simp [h0])]
   exact orI_zero fun j hj => by have := h (j + 1) (by omega); simpa [gd] using this
theorem orI_at {xs : List Int} {i : Nat} (hi : i < xs.length) (h : ∀ j, j < i → gd xs j = 0) (hx : gd xs i ≠ 0) : orI xs = gd xs i := by
 rw [orI_zero h, List.drop_eq_getElem_cons hi, ← gd_eq hi, orI, if_pos hx]
theorem orI_all {xs : List Int} (h : ∀ j, j < xs.length → gd xs j = 0) : orI xs = 0 := by
 rw [orI_zero h]; simp [orI]
theorem cmpOr_s {v : Value} {xs : List Int} (h1 : Rs G L intT v xs) (k : R (vi (orI xs)) G L) : CallT Tryz.prog 183 #[v] G L R := by
 refine CallT.bd h1 fun hb => ?_
 refine CallT.enter (args := _) Tryz.func183 rfl rfl (by kernel_rfl) rfl ?_
 refine WP.seq (WP.region (RG.mr rfl rfl rfl (RG.nil (WP.seq (WP.region (RG.mr rfl rfl rfl (RG.nil ?_)))))))
 refine WP.seq (WP.seq (WP.region (RG.pv rfl (PV.move (v := v) rfl rfl) (RG.pv rfl (PV.len (v := v) rfl Tryz.underlying159 rfl (SlF.r h1)) (RG.ml rfl rfl rfl (RG.nil (WP.block ?_)))))))
 refine WP.loop1 [3, 6, 7] (fun i => i ≤ xs.length ∧ ∀ j, j < i → gd xs j = 0) (fun i => [(8, vi i)]) (fun i => L) (fun i => xs.length - i) 0 ⟨by omega, fun j h => by omega⟩ ⟨rfl, trivial⟩ Cv.p ?_
 rintro i τ ⟨hi, hj⟩
 refine WP.seq (WP.region (RG.pv rfl (PV.lss rfl rfl rfl) (RG.nil (WP.seq ?_))))
 refine WP.cond rfl (fun h2 => ?_) (fun h2 => ?_)
 · have h2 := of_decide_eq_true h2
   refine WP.skip (WP.seq (WP.block (WP.seq (WP.region (RG.pv rfl (PV.idxS (v := v) rfl Is159 rfl (SlF.r h1) rfl rfl (by omega)) (RG.pv rfl (PV.loadE1 rfl Sc3 rfl rfl (El.r h1 (getG (by omega))) rfl) (RG.mr rfl rfl rfl ?_)))))))
   refine RG.nil (WP.seq (WP.region (RG.ml rfl rfl rfl (RG.ml rfl rfl rfl (RG.pv rfl (PV.neq rfl rfl rfl) (RG.nil ?_))))))
   refine WP.cond rfl (fun h3 => ?_) (fun h3 => ?_)
   · have h3 : gd xs i ≠ 0 := by simpa using h3
     rw [orI_at (by omega) hj h3] at k
     refine WP.seq (WP.region (RG.ml rfl rfl rfl (RG.mr rfl rfl rfl (RG.nil ?_))))
     refine WP.ret ?_
     exact ⟨_, _, ResV.one rfl rfl, Cv.p, k⟩
   · have h3 : gd xs i = 0 := by simpa using h3
     have hj' : ∀ j, j < i + 1 → gd xs j = 0 := fun j h => by
       by_cases c : j = i
       · rw [c]; exact h3
       · exact hj j (by omega)
     refine WP.skip (WP.region (RG.pv rfl (PV.add rfl rfl rfl (by omega)) (RG.ml rfl rfl rfl (RG.nil ?_))))
     exact ⟨rfl, i + 1, ⟨by omega, hj'⟩, ⟨rfl, trivial⟩, ⟨rfl, rfl, rfl, trivial⟩, Cv.p, by omega⟩
 · have h2 := of_decide_eq_false h2
   rw [orI_all (fun j h => hj j (by omega))] at k
   refine WP.exit ?_
   refine WP.seq (WP.region (RG.ml rfl rfl rfl (RG.mr rfl rfl rfl (RG.nil ?_))))
   refine WP.ret ?_
   exact ⟨_, _, ResV.one rfl rfl, Cv.p, k⟩
theorem isNaN_s {a : Int} (k : R (.bool false) G L) : CallT Tryz.prog 215 #[vi a] G L R := by
 have e : (!decide (a = a)) = false := by simp
 refine CallT.enter (args := _) Tryz.func215 rfl rfl (by kernel_rfl) rfl ?_
 refine WP.seq (WP.region (RG.br rfl rfl rfl (RG.nil (WP.seq (WP.region (RG.ml rfl rfl rfl (RG.ml rfl rfl rfl ?_)))))))
 refine RG.pv rfl (PV.neq rfl rfl rfl) (RG.br rfl rfl rfl (RG.nil ?_))
 refine WP.ret ?_
 exact ⟨_, _, ResV.one rfl rfl, Cv.p, (by rw [e]; exact k)⟩
theorem cmp_s {a b : Int} (k : R (vi (cmpI a b)) G L) : CallT Tryz.prog 184 #[vi a, vi b] G L R := by
 refine CallT.enter (args := _) Tryz.func184 rfl rfl (by kernel_rfl) rfl ?_
 refine WP.seq (WP.region (RG.mr rfl rfl rfl (RG.nil (WP.seq (WP.region (RG.ml rfl rfl rfl ?_))))))
 refine RG.callF (vs := [_]) rfl rfl En215 rfl (isNaN_s ?_)
 refine RG.br rfl rfl rfl (RG.nil (WP.seq (WP.region (RG.ml rfl rfl rfl ?_))))
 refine RG.callF (vs := [_]) rfl rfl En215 rfl (isNaN_s ?_)
 refine RG.br rfl rfl rfl (RG.nil (WP.seq (WP.seq (WP.region (RG.bl rfl rfl rfl (RG.nil ?_))))))
 refine WP.cond rfl (fun h => ?_) (fun h => ?_)
 · cases h
 · refine WP.skip ?_
   refine WP.seq (WP.seq (WP.region (RG.bl rfl rfl rfl (RG.nil ?_))))
   refine WP.cond rfl (fun h => ?_) (fun h => ?_)
   · cases h
   · refine WP.skip ?_
     refine WP.seq (WP.seq (WP.region (RG.ml rfl rfl rfl (RG.ml rfl rfl rfl (RG.pv rfl (PV.lss rfl rfl rfl) (RG.nil ?_))))))
     refine WP.cond rfl (fun h1 => ?_) (fun h1 => ?_)
     · rw [cmpI, if_pos (of_decide_eq_true h1)] at k
       refine WP.seq (WP.region (RG.mr rfl rfl rfl (RG.nil ?_)))
       refine WP.ret ?_
       exact ⟨_, _, ResV.one rfl rfl, Cv.p, k⟩
     · have h1 := of_decide_eq_false h1
       refine WP.skip (WP.seq (WP.seq (WP.region (RG.ml rfl rfl rfl (RG.ml rfl rfl rfl (RG.pv rfl (PV.gtr rfl rfl rfl) (RG.nil ?_)))))))
       refine WP.cond rfl (fun h2 => ?_) (fun h2 => ?_)
       · rw [cmpI, if_neg h1, if_pos (of_decide_eq_true h2)] at k
         refine WP.seq (WP.region (RG.mr rfl rfl rfl (RG.nil ?_)))
         refine WP.ret ?_
         exact ⟨_, _, ResV.one rfl rfl, Cv.p, k⟩
       · rw [cmpI, if_neg h1, if_neg (of_decide_eq_false h2)] at k
         refine WP.skip (WP.seq (WP.region (RG.mr rfl rfl rfl (RG.nil ?_))))
         refine WP.ret ?_
         exact ⟨_, _, ResV.one rfl rfl, Cv.p, k⟩
theorem compareRects_s {a b : Rect} (k : R (vi (cmpR a b)) G L) : CallT Tryz.prog 172 #[.agg #[vi a.x0, vi a.y0, vi a.x1, vi a.y1], .agg #[vi b.x0, vi b.y0, vi b.x1, vi b.y1]] G L R := by
 refine CallT.enter (args := _) Tryz.func172 rfl rfl (by kernel_rfl) rfl ?_
 refine WP.seq (WP.region ?_)
 refine RG.ot rfl (OT.box rfl rfl rfl fun b2 => ?_)
 refine RG.ot rfl (OT.box rfl rfl rfl fun b3 => ?_)
 refine RG.mr rfl rfl rfl (RG.nil (WP.seq ?_))
 refine WP.regionH0 (.q 0 (.q 1 (.q 2 (.q 3 (.q 5 (.q 6 (.q 7 (.q 8 (.q 10 (.q 11 (.q 12 (.q 13 (.q 15 (.q 16 (.q 17 (.q 18 (.l 4 (.l 9 (.l 14 (.l 19 (.l 20 (.l 21 (.q 22 Sch.nil))))))))))))))))))))))) (by kernel_rfl) (by kernel_rfl) (by kernel_rfl) rfl ?_
 refine RH.pv rfl (fun _ _ _ _ h => h) (Gh.le_refl _) PickC.pick rfl (PV.field rfl Fo140_1 rfl) ?_
 refine RH.pv rfl (fun _ _ _ _ h => h) (Gh.le_refl _) PickC.pick rfl (PV.load1 rfl Sc2 rfl (Rd.blk rfl)) ?_
 refine RH.pv rfl (fun _ _ _ _ h => h) (Gh.le_refl _) PickC.pick rfl (PV.field rfl Fo140_1 rfl) ?_
 refine RH.pv rfl (fun _ _ _ _ h => h) (Gh.le_refl _) PickC.pick rfl (PV.load1 rfl Sc2 rfl (Rd.blk rfl)) ?_
 refine RH.pv rfl (fun _ _ _ _ h => h) (Gh.le_refl _) PickC.pick rfl (PV.field rfl Fo140_0 rfl) ?_
 refine RH.pv rfl (fun _ _ _ _ h => h) (Gh.le_refl _) PickC.pick rfl (PV.load1 rfl Sc2 rfl (Rd.blk rfl)) ?_
 refine RH.pv rfl (fun _ _ _ _ h => h) (Gh.le_refl _) PickC.pick rfl (PV.field rfl Fo140_0 rfl) ?_
 refine RH.pv rfl (fun _ _ _ _ h => h) (Gh.le_refl _) PickC.pick rfl (PV.load1 rfl Sc2 rfl (Rd.blk rfl)) ?_
 refine RH.pv rfl (fun _ _ _ _ h => h) (Gh.le_refl _) PickC.pick rfl (PV.field rfl Fo140_3 rfl) ?_
 refine RH.pv rfl (fun _ _ _ _ h => h) (Gh.le_refl _) PickC.pick rfl (PV.load1 rfl Sc2 rfl (Rd.blk rfl)) ?_
 refine RH.pv rfl (fun _ _ _ _ h => h) (Gh.le_refl _) PickC.pick rfl (PV.field rfl Fo140_3 rfl) ?_
 refine RH.pv rfl (fun _ _ _ _ h => h) (Gh.le_refl _) PickC.pick rfl (PV.load1 rfl Sc2 rfl (Rd.blk rfl)) ?_
 refine RH.pv rfl (fun _ _ _ _ h => h) (Gh.le_refl _) PickC.pick rfl (PV.field rfl Fo140_2 rfl) ?_
 refine RH.pv rfl (fun _ _ _ _ h => h) (Gh.le_refl _) PickC.pick rfl (PV.load1 rfl Sc2 rfl (Rd.blk rfl)) ?_
 refine RH.pv rfl (fun _ _ _ _ h => h) (Gh.le_refl _) PickC.pick rfl (PV.field rfl Fo140_2 rfl) ?_
 refine RH.pv rfl (fun _ _ _ _ h => h) (Gh.le_refl _) PickC.pick rfl (PV.load1 rfl Sc2 rfl (Rd.blk rfl)) ?_
 refine RH.ot rfl rfl (OT.callF (vs := [_, _]) rfl En184 rfl (cmp_s ⟨Gh.le_refl _, PickC.pick, ?_⟩))
 refine RH.ot rfl rfl (OT.callF (vs := [_, _]) rfl En184 rfl (cmp_s ⟨Gh.le_refl _, PickC.pick, ?_⟩))
 refine RH.ot rfl rfl (OT.callF (vs := [_, _]) rfl En184 rfl (cmp_s ⟨Gh.le_refl _, PickC.pick, ?_⟩))
 refine RH.ot rfl rfl (OT.callF (vs := [_, _]) rfl En184 rfl (cmp_s ⟨Gh.le_refl _, PickC.pick, ?_⟩))
 refine RH.ot rfl rfl (OT.bslice (F := intT) (els := [_, _, _, _]) rfl El159 rfl (by decide) rfl (by decide) ⟨rfl, (Cl.c rfl), ⟨rfl, (Cl.c rfl), ⟨rfl, (Cl.c rfl), ⟨rfl, (Cl.c rfl), trivial⟩⟩⟩⟩ fun v25 => ⟨Gh.le_refl _, PickC.pick, ?_⟩)
 refine RH.ot rfl rfl (OT.callF (vs := [v25]) rfl En183 rfl (cmpOr_s Rs.o ⟨Gh.le_refl _, PickC.pick, ?_⟩))
 refine RH.pv rfl (fun _ _ _ _ h => h) (Gh.le_refl _) PickC.pick rfl (PV.mvI (.inr rfl) rfl) ?_
 refine RH.nil ?_
 refine WP.ret ?_
 exact ⟨_, _, ResV.one rfl rfl, Cv.p, k⟩
theorem partsCmp_s {v u : Value} {xs ys : List Rect} (h1 : Rs G L rectT v xs) (h2 : Rs G L rectT u ys) (hx : 0 < xs.length) (hy : 0 < ys.length) (k : R (vi (cmpR (gd xs 0) (gd ys 0))) G L) : CallT Tryz.prog 171 #[v, u] G L R := by
 refine CallT.enter (args := _) Tryz.func171 rfl rfl (by kernel_rfl) rfl ?_
 refine WP.seq (WP.region (RG.mr rfl rfl rfl (RG.nil (WP.seq ?_))))
 refine WP.regionQ (by kernel_rfl) (by kernel_rfl) ?_
 refine RQ.pv rfl (PV.move (v := v) rfl rfl) ?_
 refine RQ.pv rfl (PV.idxS (j := 0) (v := v) rfl Is50 rfl (SlF.r h1) rfl (by omega) (by omega)) ?_
 refine RQ.pv rfl (PV.loadE rfl Ag140 rfl rfl (El.r h1 (getG (by omega)))) ?_
 refine RQ.pv rfl (PV.move (v := u) rfl rfl) ?_
 refine RQ.pv rfl (PV.idxS (j := 0) (v := u) rfl Is50 rfl (SlF.r h2) rfl (by omega) (by omega)) ?_
 refine RQ.pv rfl (PV.loadE rfl Ag140 rfl rfl (El.r h2 (getG (by omega)))) ?_
 refine RQ.callF (vs := [_, _]) rfl rfl En172 rfl (compareRects_s ⟨rfl, rfl, rfl⟩) ?_
 refine RQ.pv rfl (PV.mvI (.inr rfl) rfl) ?_
 refine RQ.nil ?_
 refine WP.ret ?_
 exact ⟨_, _, ResV.one rfl rfl, Cv.p, k⟩
theorem parts_len {S : List Bool} {zs : List (Sl Rect)} (h : er zs = partsL S) : zs.length ≤ 6400 := by
 have := congrArg List.length h
 have h1 := firsts_len S 6400
 rw [er_len, partsL_len] at this; omega
theorem parts_at {S : List Bool} {zs : List (Sl Rect)} (h : er zs = partsL S) {i : Nat} (hi : i < zs.length) : i < (firsts S 6400).length ∧ (gd zs i).xs = canon (compB S (cel (gd (firsts S 6400) i))) := by
 have := congrArg List.length h
 rw [er_len, partsL_len] at this
 refine ⟨by omega, ?_⟩
 rw [← er_gd, h, partsL_gd (by omega)]
theorem parts_ne {S : List Bool} {zs : List (Sl Rect)} (h : er zs = partsL S) {i : Nat} (hi : i < zs.length) : 0 < (gd zs i).xs.length := by
 obtain ⟨h1, h2⟩ := parts_at h hi
 rw [h2]; exact (canon_first (firsts_first h1)).1
theorem parts_lt {S : List Bool} {zs : List (Sl Rect)} (h : er zs = partsL S) {i j : Nat} (hij : i < j) (hj : j < zs.length) : ¬ cmpR (gd (gd zs j).xs 0) (gd (gd zs i).xs 0) < 0 := by
 obtain ⟨h1, h2⟩ := parts_at h (i := i) (by omega)
 obtain ⟨h3, h4⟩ := parts_at h hj
 obtain ⟨_, a1, a2⟩ := canon_first (firsts_first h1)
 obtain ⟨_, a3, a4⟩ := canon_first (firsts_first h3)
 have h5 := firsts_lt hij h3
 rw [h2, h4, cmpR, a1, a2, a3, a4]
 simp only [orI, cmpI]
 split <;> split <;> (try split) <;> (try split) <;> (try split) <;> omega
theorem pi_zlen {S T : List Bool} {n : Nat} {zs : List (Sl Rect)} (h : PI canon S n T (er zs)) : zs.length ≤ n := by
 have := congrArg List.length h.er
 have h1 := firsts_len S n
 rw [er_len, List.length_map] at this; omega
theorem bv_len (bs : List Bool) : (bv bs).length = bs.length := by simp [bv]
theorem take6400 {S : List Bool} (h : S.length = 6400) : (S.drop 0).take 6400 = S := by rw [List.drop_zero, List.take_of_length_le (by omega)]
theorem allOne_bv (bs : List Bool) : allOne (bv bs) = true := by simp [allOne, bv, Value.oneCell']
theorem OT.storeGG {P : Program} {n : Nat} {σ : Nat → Value} {o : Oper} {K : (Nat → Value) → Gh → List Ch → Prop} {b : Nat} {t e : TypeId} {x y : Operand} {cs : List Value} {bs : List Bool} {L' : List Ch} (ho : o.op = .store t x y) (hS : ∀ w, (sizeOf t).run P w = .ok 6400 w) (hx : ev σ x = .pointer (some ⟨b, 0, none⟩)) (hy : ev σ y = .agg (bv bs).toArray) (hl : bs.length = 6400) [hX : ExB b L e cs L'] (hc : cs.length = 6400) (k : K (updo σ o.dst undef) G (blk b e (bv bs) :: L')) : OT P n o σ G L K :=
 OT.storeW ho hS hx hy (Cl.c (by simp [Value.cells])) (by simp [bv, hl]) hc (OneC.c (allOne_bv bs)) k
set_option maxHeartbeats 1000000 in
theorem parts_s {b : Nat} {S : List Bool} (hS : S.length = 6400) (k : ∀ v zs, er zs = partsL S → R v G (osl 50 slT v zs :: bagS 140 rectT zs :: grd b S :: L)) : CallT Tryz.prog 125 #[.pointer (some ⟨b, 0, none⟩), .bool false] G (grd b S :: L) R := by
 refine CallT.enter (args := _) Tryz.func125 rfl rfl (by kernel_rfl) rfl ?_
 refine WP.seq (WP.region (RG.pv rfl (PV.asg rfl rfl) (RG.nil ?_)))
 refine WP.cut2 [1] (fun (o : Value) (b6 : Nat) => True) (fun (o : Value) (b6 : Nat) => [(5, o), (6, .pointer (some ⟨b6, 0, none⟩))]) (fun (o : Value) (b6 : Nat) => grd b6 S :: osl 50 slT o ([] : List (Sl Rect)) :: grd b S :: L) ?_ ?_
 refine WP.regionH0 (.q 1 (.q 2 (.q 3 (.b 0 (.l 4 (.q 5 (.l 6 Sch.nil))) 4 (.l 0 (.q 5 (.l 6 Sch.nil))))))) (by kernel_rfl) (by kernel_rfl) (by kernel_rfl) rfl ?_
 refine RH.pv rfl (fun _ _ _ _ h => h) (Gh.le_refl _) PickC.pick rfl (PV.mvP (.inl rfl) rfl) ?_
 refine RH.pv rfl (fun _ _ _ _ h => h) (Gh.le_refl _) PickC.pick rfl (PV.nilc rfl rfl) ?_
 refine RH.pv rfl (fun _ _ _ _ h => h) (Gh.le_refl _) PickC.pick rfl (PV.loadRow rfl Ag148 rfl rfl (by omega)) ?_
 · refine RH.ot2 rfl rfl rfl rfl  (OT.bslice (F := (slT (α := Rect))) (els := []) rfl El47 rfl (by decide) rfl (by decide) trivial fun v12 => ⟨Gh.le_refl _, PickC.pick, ?_⟩) (OT.alloc rfl (zeroB_spec (n := 6400) (by kernel_rfl)) fun b6 => ⟨Gh.le_refl _, PickC.pick, ?_⟩)
   · refine RH.ot rfl rfl (OT.alloc rfl (zeroB_spec (n := 6400) (by kernel_rfl)) fun b6 => ⟨Gh.le_refl _, PickC.pick, ?_⟩)
     refine RH.pv rfl (fun _ _ _ _ h => h) (Gh.le_refl _) PickC.pick rfl (PV.asg (v := v12) rfl rfl) ?_
     refine RH.ot rfl rfl (OT.storeGG rfl Sz148 rfl rfl (by first | omega | (simp <;> omega)) (by first | assumption | rw [bv_len, List.length_replicate]) ⟨Gh.le_refl _, PickC.pick, ?_⟩)
     refine RH.nil ?_
     exact ⟨rfl, v12, b6, trivial, ⟨rfl, rfl, trivial⟩, ⟨rfl, trivial⟩, (Cv.p (C := grd b6 ((S.drop 0).take 6400) :: osl 50 slT v12 ([] : List (Sl Rect)) :: grd b S :: L)).trans (Cv.cast (by rw [take6400 hS]))⟩
   · refine RH.ot rfl rfl (OT.bslice (F := (slT (α := Rect))) (els := []) rfl El47 rfl (by decide) rfl (by decide) trivial fun v12 => ⟨Gh.le_refl _, PickC.pick, ?_⟩)
     refine RH.pv rfl (fun _ _ _ _ h => h) (Gh.le_refl _) PickC.pick rfl (PV.asg (v := v12) rfl rfl) ?_
     refine RH.ot rfl rfl (OT.storeGG rfl Sz148 rfl rfl (by first | omega | (simp <;> omega)) (by first | assumption | rw [bv_len, List.length_replicate]) ⟨Gh.le_refl _, PickC.pick, ?_⟩)
     refine RH.nil ?_
     exact ⟨rfl, v12, b6, trivial, ⟨rfl, rfl, trivial⟩, ⟨rfl, trivial⟩, (Cv.p (C := grd b6 ((S.drop 0).take 6400) :: osl 50 slT v12 ([] : List (Sl Rect)) :: grd b S :: L)).trans (Cv.cast (by rw [take6400 hS]))⟩
 · rintro o b6 τ _
   refine WP.seq (WP.seq (WP.region (RG.ml rfl rfl rfl (RG.nil (WP.block ?_)))))
   refine WP.cv ((Cv.p (C := osl 50 slT o ([] : List (Sl Rect)) :: grd b6 S :: grd b S :: L)).trans (Cv.cons (Cv.bag0 (e := 140) (F := rectT) (xs := []) rfl))) ?_
   refine WP.loop4 [1, 6] (fun (y : Nat) (T : List Bool) (zs : List (Sl Rect)) (q : Value) => y ≤ 80 ∧ PI canon S (y * 80) T (er zs)) (fun (y : Nat) (T : List Bool) (zs : List (Sl Rect)) (q : Value) => [(16, vi y), (5, q)]) (fun (y : Nat) (T : List Bool) (zs : List (Sl Rect)) (q : Value) => grd b6 T :: osl 50 slT q zs :: bagS 140 rectT zs :: grd b S :: L) (fun (y : Nat) (T : List Bool) (zs : List (Sl Rect)) (q : Value) => 80 - y) 0 S [] o ⟨by omega, PI.start hS⟩ ⟨rfl, rfl, trivial⟩ Cv.p ?_
   rintro y T zs q τ ⟨hy, hP⟩
   refine WP.seq (WP.region (RG.pv rfl (PV.lss rfl rfl rfl) (RG.nil (WP.seq ?_))))
   refine WP.cond rfl (fun h2 => ?_) (fun h2 => ?_)
   · have h2 := of_decide_eq_true h2
     refine WP.skip (WP.seq (WP.block (WP.seq (WP.region (RG.ml rfl rfl rfl (RG.mr rfl rfl rfl (RG.nil ?_)))))))
     refine WP.seq (WP.region (RG.ml rfl rfl rfl (RG.nil (WP.block ?_))))
     refine WP.loop4 [1, 6, 7, 16] (fun (x : Nat) (T1 : List Bool) (zs1 : List (Sl Rect)) (q1 : Value) => x ≤ 80 ∧ PI canon S (y * 80 + x) T1 (er zs1)) (fun (x : Nat) (T1 : List Bool) (zs1 : List (Sl Rect)) (q1 : Value) => [(19, vi x), (5, q1)]) (fun (x : Nat) (T1 : List Bool) (zs1 : List (Sl Rect)) (q1 : Value) => grd b6 T1 :: osl 50 slT q1 zs1 :: bagS 140 rectT zs1 :: grd b S :: L) (fun (x : Nat) (T1 : List Bool) (zs1 : List (Sl Rect)) (q1 : Value) => 80 - x) 0 T zs q ⟨by omega, hP⟩ ⟨rfl, rfl, trivial⟩ Cv.p ?_
     rintro x T1 zs1 q1 τ1 ⟨hx, hP1⟩
     refine WP.seq (WP.region (RG.pv rfl (PV.lss rfl rfl rfl) (RG.nil (WP.seq ?_))))
     refine WP.cond rfl (fun h3 => ?_) (fun h3 => ?_)
     · have h3 := of_decide_eq_true h3
       have hl1 := hP1.len
       have hzl := pi_zlen hP1
       have e1 : (y * 80 + x) / 80 = y := by omega
       have e2 : (y * 80 + x) % 80 = x := by omega
       have e3 : cel (y * 80 + x) = (y, x) := by rw [cel, e1, e2]
       refine WP.skip (WP.seq (WP.block (WP.seq (WP.region (RG.ml rfl rfl rfl (RG.mr rfl rfl rfl (RG.nil ?_)))))))
       refine WP.seq (WP.seq (WP.region (RG.ml rfl rfl rfl (RG.ml rfl rfl rfl (RG.pv rfl (PV.idxA (j := y) rfl Ia148 rfl rfl (by omega) (by omega)) (RG.pv rfl (PV.idxA (j := x) rfl Ia146 rfl rfl (by omega) (by omega)) (RG.pv rfl (PV.loadGr rfl Sc4 rfl rfl (by omega)) ?_)))))))
       refine RG.pv rfl (PV.not rfl rfl) (RG.nil ?_)
       refine WP.cond rfl (fun h4 => ?_) (fun h4 => ?_)
       · have h5 : gb T1 y x = false := by rw [← gd_gb]; simpa using h4
         refine WP.exit ?_
         refine WP.region (RG.pv rfl (PV.add rfl rfl rfl (by omega)) (RG.ml rfl rfl rfl (RG.nil ?_)))
         exact ⟨rfl, x + 1, T1, zs1, q1, ⟨by omega, hP1.skip (by omega) (by rw [e1, e2]; exact h5)⟩, ⟨rfl, rfl, trivial⟩, ⟨rfl, rfl, rfl, rfl, trivial⟩, Cv.p, by omega⟩
       · have h5 : gb T1 y x = true := by rw [← gd_gb]; simpa using h4
         refine WP.skip (WP.seq (WP.region (RG.ml rfl rfl rfl (RG.ml rfl rfl rfl (RG.bl rfl rfl rfl ?_)))))
         refine RG.callF (vs := [_, _, _, _]) rfl rfl En169 rfl (CallT.exB (flood_s (x := (x : Int)) (y := (y : Int)) hl1 (by omega) (by omega) (by rw [Int.toNat_natCast, Int.toNat_natCast]; exact h5) (fun b9 => ?_)))
         refine RG.pv rfl (PV.asg rfl rfl) (RG.nil (WP.seq (WP.seq (WP.region (RG.ml rfl rfl rfl (RG.nil (WP.block ?_)))))))
         refine WP.cv ((Cv.p (C := grd b9 (compB T1 ((y : Int).toNat, (x : Int).toNat)) :: grd b6 T1 :: osl 50 slT q1 zs1 :: bagS 140 rectT zs1 :: grd b S :: L)).trans (Cv.cast (by rw [Int.toNat_natCast, Int.toNat_natCast, ← e3]))) ?_
         have hlc := compB_len T1 (cel (y * 80 + x))
         refine WP.loop2 [1, 5, 6, 7, 9, 16, 19] (fun (v : Nat) (U : List Bool) => v ≤ 80 ∧ Sub T1 (compB T1 (cel (y * 80 + x))) (v * 80) U) (fun (v : Nat) (U : List Bool) => [(32, vi v)]) (fun (v : Nat) (U : List Bool) => grd b9 (compB T1 (cel (y * 80 + x))) :: grd b6 U :: osl 50 slT q1 zs1 :: bagS 140 rectT zs1 :: grd b S :: L) (fun (v : Nat) (U : List Bool) => 80 - v) 0 T1 ⟨by omega, Sub.start hl1⟩ ⟨rfl, trivial⟩ Cv.p ?_
         rintro v U τ2 ⟨hv, hU⟩
         refine WP.seq (WP.region (RG.pv rfl (PV.lss rfl rfl rfl) (RG.nil (WP.seq ?_))))
         refine WP.cond rfl (fun h6 => ?_) (fun h6 => ?_)
         · have h6 := of_decide_eq_true h6
           refine WP.skip (WP.seq (WP.block (WP.seq (WP.region (RG.ml rfl rfl rfl (RG.mr rfl rfl rfl (RG.nil ?_)))))))
           refine WP.seq (WP.region (RG.ml rfl rfl rfl (RG.nil (WP.block ?_))))
           refine WP.loop2 [1, 5, 6, 7, 9, 10, 16, 19, 32] (fun (u : Nat) (V : List Bool) => u ≤ 80 ∧ Sub T1 (compB T1 (cel (y * 80 + x))) (v * 80 + u) V) (fun (u : Nat) (V : List Bool) => [(35, vi u)]) (fun (u : Nat) (V : List Bool) => grd b9 (compB T1 (cel (y * 80 + x))) :: grd b6 V :: osl 50 slT q1 zs1 :: bagS 140 rectT zs1 :: grd b S :: L) (fun (u : Nat) (V : List Bool) => 80 - u) 0 U ⟨by omega, hU⟩ ⟨rfl, trivial⟩ Cv.p ?_
           rintro u V τ3 ⟨hu, hV⟩
           refine WP.seq (WP.region (RG.pv rfl (PV.lss rfl rfl rfl) (RG.nil (WP.seq ?_))))
           refine WP.cond rfl (fun h7 => ?_) (fun h7 => ?_)
           · have h7 := of_decide_eq_true h7
             have hVl := hV.1
             refine WP.skip (WP.seq (WP.block (WP.seq (WP.region (RG.ml rfl rfl rfl (RG.mr rfl rfl rfl (RG.nil ?_)))))))
             refine WP.regionHD [.b b6] (.q 0 (.q 1 (.q 2 (.q 3 (.q 4 (.q 5 (.q 17 (.l 6 (.q 7 (.q 8 (.q 9 (.q 10 (.q 11 (.q 12 (.q 13 (.q 14 (.q 15 (.q 16 (.q 18 (.l 19 Sch.nil)))))))))))))))))))) (by kernel_rfl) (by kernel_rfl) (by kernel_rfl) rfl ?_
             refine RH.pv rfl (fun _ _ _ _ h => h) (Gh.le_refl _) PickC.pick rfl (PV.mvI (.inl rfl) rfl) ?_
             refine RH.pv rfl (fun _ _ _ _ h => h) (Gh.le_refl _) PickC.pick rfl (PV.mvI (.inl rfl) rfl) ?_
             refine RH.pv rfl (fun _ _ _ _ h => h) (Gh.le_refl _) PickC.pick rfl (PV.mvI (.inl rfl) rfl) ?_
             refine RH.pv rfl (fun _ _ _ _ h => h) (Gh.le_refl _) PickC.pick rfl (PV.mvI (.inl rfl) rfl) ?_
             refine RH.pv rfl (fun _ _ _ _ h => h) (Gh.le_refl _) PickC.pick rfl (PV.idxA (j := v) rfl Ia148 rfl rfl (by omega) (by omega)) ?_
             refine RH.pv rfl (fun _ _ _ _ h => h) (Gh.le_refl _) PickC.pick rfl (PV.idxA (j := u) rfl Ia146 rfl rfl (by omega) (by omega)) ?_
             refine RH.pv rfl (fun _ _ _ _ h => h) (Gh.le_refl _) PickC.pick rfl (PV.idxA (j := v) rfl Ia148 rfl rfl (by omega) (by omega)) ?_
             refine RH.ot rfl rfl (OT.pv (PV.loadGr rfl Sc4 rfl rfl (by omega)) ⟨Gh.le_refl _, PickC.pick, ?_⟩)
             refine RH.pv rfl (fun _ _ _ _ h => h) (Gh.le_refl _) PickC.pick rfl (PV.mvB (.inl rfl) rfl) ?_
             refine RH.gs rfl (fun _ _ _ _ h => h) (Gh.le_refl _) PickC.pick rfl rfl rfl (fun hp => (PV.mvP (.inl rfl) rfl)) ?_
             refine RH.gs rfl (fun _ _ _ _ h => h) (Gh.le_refl _) PickC.pick rfl rfl rfl (fun hp => (PV.mvI (.inl rfl) rfl)) ?_
             refine RH.gs rfl (fun _ _ _ _ h => h) (Gh.le_refl _) PickC.pick rfl rfl rfl (fun hp => (PV.mvI (.inl rfl) rfl)) ?_
             refine RH.gs rfl (fun _ _ _ _ h => h) (Gh.le_refl _) PickC.pick rfl rfl rfl (fun hp => (PV.nilc rfl (gs_t hp))) ?_
             refine RH.gs rfl (fun _ _ _ _ h => h) (Gh.le_refl _) PickC.pick rfl rfl rfl (fun hp => (PV.idxA (j := v) rfl Ia148 (gs_t hp) (gs_t hp) (by first | omega | (simp at hp; omega)) (by first | omega | (simp at hp; omega)))) ?_
             refine RH.gs rfl (fun _ _ _ _ h => h) (Gh.le_refl _) PickC.pick rfl rfl rfl (fun hp => (PV.idxA (j := u) rfl Ia146 (gs_t hp) (gs_t hp) (by first | omega | (simp at hp; omega)) (by first | omega | (simp at hp; omega)))) ?_
             refine RH.gs rfl (fun _ _ _ _ h => h) (Gh.le_refl _) PickC.pick rfl rfl rfl (fun hp => (PV.loadGr rfl Sc4 (gs_t hp) rfl (by first | omega | (simp at hp; omega)))) ?_
             refine RH.gs rfl (fun _ _ _ _ h => h) (Gh.le_refl _) PickC.pick rfl rfl rfl (fun hp => (PV.not rfl (gs_t hp))) ?_
             refine RH.pv rfl (fun _ _ _ _ h => h) (Gh.le_refl _) PickC.pick rfl (PV.pickA rfl rfl (fun hq => gs_t (geqT hq)) rfl) ?_
             refine RH.pv rfl (fun _ _ _ _ h => h) (Gh.le_refl _) PickC.pick rfl (PV.idxA (j := u) rfl Ia146 rfl rfl (by omega) (by omega)) ?_
             refine RH.ot rfl rfl (OT.storeGr rfl Sz4 rfl rfl rfl (by first | omega | (simp; omega)) ⟨Gh.le_refl _, PickC.pick, ?_⟩)
             refine RH.nil ?_
             refine WP.region (RG.pv rfl (PV.add rfl rfl rfl (by omega)) (RG.ml rfl rfl rfl (RG.nil ?_)))
             exact ⟨rfl, u + 1, (V.set (0 + v * 80 + u * 1) (gd V (0 + v * 80 + u * 1) && !gd (compB T1 (cel (y * 80 + x))) (0 + v * 80 + u * 1))), ⟨by omega, hV.step (by omega) (by omega) (by omega)⟩, ⟨rfl, trivial⟩, ⟨rfl, rfl, rfl, rfl, rfl, rfl, rfl, rfl, rfl, trivial⟩, Cv.p, by omega⟩
           · have h7 := of_decide_eq_false h7
             obtain rfl : u = 80 := by omega
             refine WP.exit ?_
             refine WP.region (RG.pv rfl (PV.add rfl rfl rfl (by omega)) (RG.ml rfl rfl rfl (RG.nil ?_)))
             exact ⟨rfl, v + 1, V, ⟨by omega, by rw [Nat.add_mul]; exact hV⟩, ⟨rfl, trivial⟩, ⟨rfl, rfl, rfl, rfl, rfl, rfl, rfl, trivial⟩, Cv.p, by omega⟩
         · have h6 := of_decide_eq_false h6
           obtain rfl : v = 80 := by omega
           refine WP.exit ?_
           refine WP.region (RG.pv rfl (PV.move (v := q1) rfl rfl) (RG.pv rfl (PV.mvP (.inl rfl) rfl) ?_))
           refine RG.callF (vs := [_]) rfl rfl En85 rfl (region_s hlc (fun v61 => ?_))
           refine RG.ot rfl (OT.bslice (F := (slT (α := Rect))) (els := [⟨v61, canon (compB T1 (cel (y * 80 + x)))⟩]) rfl El47 rfl (by decide) rfl (by decide) ⟨rfl, (Cl.s (v := v61) SlF.o), trivial⟩ fun v62 => ?_)
           refine RG.ot rfl (OT.append (v := q1) (u := v62) (F := (slT (α := Rect))) rfl El47 rfl (by decide) rfl rfl Rs.o (OneL.one (OneC.sl SlF.o OneC.nil)) rfl (by first | omega | (simp <;> omega)) fun v63 => ?_)
           refine RG.pv rfl (PV.asg (v := v63) rfl rfl) (RG.nil (WP.region (RG.pv rfl (PV.add rfl rfl rfl (by omega)) (RG.ml rfl rfl rfl (RG.nil ?_)))))
           refine ⟨rfl, x + 1, U, (zs1 ++ [⟨v61, canon (compB T1 (cel (y * 80 + x)))⟩]), v63, ⟨by omega, ?_⟩, ⟨rfl, rfl, trivial⟩, ⟨rfl, rfl, rfl, rfl, trivial⟩, ((Cv.p (C := osl 140 rectT v61 (canon (compB T1 (cel (y * 80 + x)))) :: bagS 140 rectT zs1 :: grd b6 U :: osl 50 slT v63 (zs1 ++ [⟨v61, canon (compB T1 (cel (y * 80 + x)))⟩]) :: grd b S :: L)).trans (Cv.bagS_add.trans Cv.p)), by omega⟩
           rw [er, List.map_append]
           exact hP1.take (by omega) (by rw [e1, e2]; exact h5) hU.1 hU.final
     · have h3 := of_decide_eq_false h3
       obtain rfl : x = 80 := by omega
       refine WP.exit ?_
       refine WP.region (RG.pv rfl (PV.add rfl rfl rfl (by omega)) (RG.ml rfl rfl rfl (RG.nil ?_)))
       exact ⟨rfl, y + 1, T1, zs1, q1, ⟨by omega, by rw [Nat.add_mul]; exact hP1⟩, ⟨rfl, rfl, trivial⟩, ⟨rfl, rfl, trivial⟩, Cv.p, by omega⟩
   · have h2 := of_decide_eq_false h2
     obtain rfl : y = 80 := by omega
     have hz := hP.final
     refine WP.exit ?_
     refine WP.seq (WP.region (RG.pv rfl (PV.move (v := q) rfl rfl) ?_))
     refine RG.callF (vs := [q, _]) rfl rfl En170 rfl (sorted_rss (cf := fun i j => cmpR (gd (gd zs i).xs 0) (gd (gd zs j).xs 0)) (parts_len hz) Rs.o (fun i j hi hj => CB.mk0 En171 fun L' R c k => partsCmp_s (Rs.cv c (RsE.o i hi)) (Rs.cv c (RsE.o j hj)) (parts_ne hz hi) (parts_ne hz hj) k) (fun i j hij hj => parts_lt hz hij hj) ?_)
     refine RG.nil (WP.seq (WP.region (RG.pv rfl (PV.move (v := q) rfl rfl) (RG.pv rfl (PV.asg (v := q) rfl rfl) (RG.nil ?_)))))
     refine WP.ret ?_
     exact ⟨_, _, ResV.one rfl rfl, Cv.p, k q zs hz⟩
end Go.Proofs.YthhjapiggekjbaaGreat
namespace Go.Proofs.YthhjapiggekjbaaGreat
set_option linter.unusedVariables false
set_option linter.unusedSimpArgs false
open Go
set_option maxRecDepth 20000
set_option linter.unusedSimpArgs false
set_option linter.unusedVariables false
variable {G : Gh} {L : List Ch} {R : Value → Gh → List Ch → Prop}
theorem wpAnyH_mono {P : Program} {md : Region.Mode} {ops : Array Oper} {Q : Exit → Act → World → Prop} {S S' : World → Prop} (h : ∀ w, S' w → S w) : ∀ (fuel : Nat) (ls : Array Bool) (a : Act) (w : World), wpAnyH P md ops Q S' fuel ls a w → wpAnyH P md ops Q S fuel ls a w
 | 0, _, _, _, k => k
 | fuel + 1, _, _, _, k => ⟨k.1, fun i hi => wpOp_mono (fun a' w' k' => ⟨h w' k'.1, wpAnyH_mono h fuel _ a' w' k'.2⟩) (k.2 i hi)⟩
/-- a fresh chunk is held from here on -/
theorem RH.up1 {P : Program} {n : Nat} {ops : Array Oper} {Q : Post} {σ : Nat → Value} {G G0 : Gh} {L C0 : List Ch} {r : Sch} {c : Ch} (k : RH P n ops G0 (c :: C0) r Q σ G (c :: L)) : RH P n ops G0 C0 r Q σ G (c :: L) :=
 RH.of fun h1 h2 ls a w hb ha hs => wpAnyH_mono (fun w' hs' => hs'.pick (.drop _ (.refl _))) _ _ _ _ (k.run h1 h2 hb ha hs)
theorem components_s {v : Value} {xs : List Rect} (h1 : Rs G L rectT v xs) (k : ∀ v zs, er zs = partsL (bits xs) → R v G (osl 50 slT v zs :: bagS 140 rectT zs :: L)) : CallT Tryz.prog 73 #[v] G L R := by
 refine CallT.enter (args := _) Tryz.func73 rfl rfl (by kernel_rfl) rfl ?_
 refine WP.seq (WP.region (RG.pv rfl (PV.asg rfl rfl) (RG.nil (WP.seq (WP.region (RG.pv rfl (PV.move (v := v) rfl rfl) ?_))))))
 refine RG.callF (vs := [v]) rfl rfl En124 rfl (cellsOf_s (Rs.up h1) (fun b7 => ?_))
 refine RG.callF (vs := [_, _]) rfl rfl En125 rfl (CallT.exB (parts_s (bits_length _) (fun v8 ps8 hp8 => ?_)))
 refine RG.pv rfl (PV.asg rfl rfl) (RG.nil ?_)
 refine WP.ret ?_
 exact ⟨_, _, ResV.one rfl rfl, Cv.p, k v8 ps8 hp8⟩
/-- the cells of the first n places of the queue -/
def PQ (Q : List (Int × Int)) (n : Nat) (P : List Bool) : Prop := P.length = 6400 ∧ ∀ y x, y < 80 → x < 80 → (gb P y x = true ↔ ∃ m, m < n ∧ qc (gd Q m) = (y, x))
theorem PQ.zero (Q : List (Int × Int)) : PQ Q 0 (List.replicate 6400 false) := ⟨List.length_replicate, fun y x _ _ => by rw [gb_rep']; simp⟩
theorem PQ.step {Q : List (Int × Int)} {n : Nat} {P : List Bool} (h : PQ Q n P) (hb : 0 ≤ (gd Q n).1 ∧ (gd Q n).1 < 80 ∧ 0 ≤ (gd Q n).2 ∧ (gd Q n).2 < 80) : PQ Q (n + 1) (P.set ((gd Q n).2.toNat * 80 + (gd Q n).1.toNat) true) := by
 refine ⟨by simpa using h.1, fun y x hy hx => ?_⟩
 rw [gb_set' h.1 (by omega) (by omega) hx]
 by_cases e : y = (gd Q n).2.toNat ∧ x = (gd Q n).1.toNat
 · rw [if_pos e]
   exact ⟨fun _ => ⟨n, by omega, by rw [qc, e.1, e.2]⟩, fun _ => rfl⟩
 · rw [if_neg e, h.2 y x hy hx]
   constructor
   · rintro ⟨m, hm, he⟩; exact ⟨m, by omega, he⟩
   · rintro ⟨m, hm, he⟩
     by_cases c : m = n
     · subst c; exfalso; apply e; simp only [qc, Prod.mk.injEq] at he; omega
     · exact ⟨m, by omega, he⟩
theorem PQ.final {S : List Bool} {a : Cel} {Q : List (Int × Int)} {P : List Bool} (hF : FI S a (compB S a) Q) (h : PQ Q Q.length P) : P = compB S a := by
 refine gb_ext h.1 (compB_len _ _) fun y x hy hx => ?_
 rw [Bool.eq_iff_iff, h.2 y x hy hx]
 constructor
 · rintro ⟨m, hm, he⟩; have := (hF.on m hm).2.2; rw [he] at this; exact this
 · intro hg; exact hF.all (y, x) ⟨hy, hx, hg⟩
/-- what is left when the cells of P are taken away -/
def MQ (T P U : List Bool) : Prop := U.length = 6400 ∧ ∀ y x, y < 80 → x < 80 → gb U y x = (gb T y x && !gb P y x)
theorem MQ.zero {T : List Bool} (h : T.length = 6400) : MQ T (List.replicate 6400 false) T := ⟨h, fun y x _ _ => by rw [gb_rep']; simp⟩
theorem MQ.step {T P U : List Bool} (h : MQ T P U) (hP : P.length = 6400) {v u : Nat} (hv : v < 80) (hu : u < 80) : MQ T (P.set (v * 80 + u) true) (U.set (v * 80 + u) false) := by
 refine ⟨by simpa using h.1, fun y x hy hx => ?_⟩
 rw [gb_set' h.1 hv hu hx, gb_set' hP hv hu hx]
 by_cases e : y = v ∧ x = u
 · rw [if_pos e, if_pos e]; simp
 · rw [if_neg e, if_neg e]; exact h.2 y x hy hx
end Go.Proofs.YthhjapiggekjbaaGreat
namespace Go.Proofs.YthhjapiggekjbaaGreat
set_option linter.unusedVariables false
set_option linter.unusedSimpArgs false
open Go
set_option maxRecDepth 20000
set_option linter.unusedSimpArgs false
variable {G : Gh} {L : List Ch} {R : Value → Gh → List Ch → Prop}
def regs (xs : List Piece) : List (Sl Rect) := xs.map Piece.reg
theorem regs_len (xs : List Piece) : (regs xs).length = xs.length := by simp [regs]
theorem regs_gd {xs : List Piece} {i : Nat} (h : i < xs.length) : gd (regs xs) i = (gd xs i).reg := gd_map _ h
theorem RsE.reg {xs : List Piece} (h : RsE G L rectT (regs xs)) {i : Nat} (hi : i < xs.length) : Rs G L rectT (gd xs i).reg.v (gd xs i).reg.xs := by
 have := h i (by rw [regs_len]; exact hi); rwa [regs_gd hi] at this
def erP (p : Piece) : Int × List Rect := (p.layer, p.reg.xs)
def erPs (xs : List Piece) : List (Int × List Rect) := xs.map erP
theorem erPs_len (xs : List Piece) : (erPs xs).length = xs.length := by simp [erPs]
theorem erPs_gd {xs : List Piece} {i : Nat} (h : i < xs.length) : gd (erPs xs) i = erP (gd xs i) := gd_map _ h
end Go.Proofs.YthhjapiggekjbaaGreat
namespace Go.Proofs.YthhjapiggekjbaaGreat
set_option linter.unusedVariables false
set_option linter.unusedSimpArgs false
open Go
set_option maxRecDepth 20000
set_option linter.unusedSimpArgs false
variable {G : Gh} {L : List Ch} {R : Value → Gh → List Ch → Prop}
theorem clone_rects {v : Value} {xs : List (Rect)} (h1 : Rs G L rectT v xs) (hb : xs.length ≤ 1048576) (k : ∀ v', R v' G (osl 140 rectT v' xs :: L)) : CallT Tryz.prog 191 #[v] G L R := by
 refine CallT.st (fun w hs => isNilS_nil h1 hs) fun hn => ?_
 refine CallT.enter (args := _) Tryz.func191 rfl rfl (by kernel_rfl) rfl ?_
 refine WP.seq (WP.region (RG.pv rfl (PV.asg rfl rfl) (RG.nil (WP.seq (WP.seq (WP.region (RG.pv rfl (PV.move (v := v) rfl rfl) ?_)))))))
 refine RG.pv rfl (PV.eqlNil rfl Tryz.underlying50 rfl (SlF.r h1)) (RG.nil ?_)
 refine WP.cond rfl (fun h2 => ?_) (fun h2 => ?_)
 · have e := hn h2
   rw [e] at k
   refine WP.seq (WP.region (RG.pv rfl (PV.asg rfl rfl) (RG.nil ?_)))
   refine WP.ret ?_
   exact ⟨_, _, ResV.one rfl rfl, Cv.nilS, k _⟩
 · refine WP.skip ?_
   refine WP.seq (WP.region ?_)
   refine RG.ot rfl (OT.bslice (F := rectT) (els := []) rfl El50 rfl (by decide) rfl (by decide) trivial fun v5 => ?_)
   refine RG.pv rfl (PV.move (v := v) rfl rfl) ?_
   refine RG.ot rfl (OT.append (v := v5) (u := v) (F := rectT) rfl El50 rfl (by decide) rfl rfl (Rs.up h1) (OneL.c (fun _ => rfl)) rfl (by first | omega | (simp <;> omega)) fun v7 => ?_)
   refine RG.pv rfl (PV.asg (v := v7) rfl rfl) (RG.nil ?_)
   refine WP.ret ?_
   exact ⟨_, _, ResV.one rfl rfl, (Cv.eqS (List.nil_append _)), k v7⟩
def condB (l : List (List Rect)) : List (List Bool) := [zipB (fun p q => p && !q) (bits (gd l 0)) (bits (gd l 1)), bits (gd l 1), bits (gd l 3), bits (gd l 5)]
def condR (l : List (List Rect)) : List (List Rect) := bif isLay l then (condB l).map canon else []
theorem condB_len (l : List (List Rect)) {i : Nat} (h : i < 4) : (gd (condB l) i).length = 6400 := by
 have h0 : ∀ xs, (bits xs).length = 6400 := bits_length
 match i, h with
 | 0, _ => simp [condB, gd, zipB, h0]
 | 1, _ => simp [condB, gd, h0]
 | 2, _ => simp [condB, gd, h0]
 | 3, _ => simp [condB, gd, h0]
theorem condR_eq {l : List (List Rect)} (h : isLay l = true) : condR l = [opR (fun p q => p && !q) (gd l 0) (gd l 1), gd l 1, gd l 3, gd l 5] := by
 simp only [condR, h, cond_true, condB, List.map_cons, List.map_nil, opR, isLay_reg h (show 0 < 8 by omega), isLay_reg h (show 1 < 8 by omega), Bool.and_self, isReg_eq (isLay_reg h (show 1 < 8 by omega)), isReg_eq (isLay_reg h (show 3 < 8 by omega)), isReg_eq (isLay_reg h (show 5 < 8 by omega))]
theorem conductors_s {v : Value} {xs : List (Sl Rect)} (h1 : Rs G L slT v xs) (hd : RsE G L rectT xs) (h8 : xs.length = 8) (hbi : ∀ i, i < 8 → (gd xs i).xs.length ≤ 1048576) (k : ∀ v' ys, er ys = [opR (fun p q => p && !q) (gd xs 0).xs (gd xs 1).xs, (gd xs 1).xs, (gd xs 3).xs, (gd xs 5).xs] → R v' G (osl 50 slT v' ys :: bagS 140 rectT ys :: L)) : CallT Tryz.prog 136 #[v] G L R := by
 refine CallT.enter (args := _) Tryz.func136 rfl rfl (by kernel_rfl) rfl ?_
 refine WP.seq (WP.region (RG.pv rfl (PV.asg rfl rfl) (RG.nil (WP.seq ?_))))
 refine WP.regionH0 (.q 0 (.q 1 (.q 2 (.q 3 (.q 4 (.q 5 (.q 7 (.q 8 (.q 9 (.q 11 (.q 12 (.q 13 (.q 15 (.q 16 (.q 17 (.l 6 (.l 10 (.l 14 (.l 18 (.l 19 (.q 20 Sch.nil))))))))))))))))))))) (by kernel_rfl) (by kernel_rfl) (by kernel_rfl) rfl ?_
 refine RH.pv rfl (fun _ _ _ _ h => h) (Gh.le_refl _) PickC.pick rfl (PV.move (v := v) rfl rfl) ?_
 refine RH.pv rfl (fun _ _ _ _ h => h) (Gh.le_refl _) PickC.pick rfl (PV.idxS (j := 0) (v := v) rfl Is47 rfl (SlF.r h1) rfl (by omega) (by omega)) ?_
 refine RH.pv rfl (fun _ _ _ _ h => h) (Gh.le_refl _) PickC.pick rfl (PV.loadE1 rfl Sc50 rfl rfl (El.r h1 (getG (by omega))) rfl) ?_
 refine RH.pv rfl (fun _ _ _ _ h => h) (Gh.le_refl _) PickC.pick rfl (PV.move (v := v) rfl rfl) ?_
 refine RH.pv rfl (fun _ _ _ _ h => h) (Gh.le_refl _) PickC.pick rfl (PV.idxS (j := 1) (v := v) rfl Is47 rfl (SlF.r h1) rfl (by omega) (by omega)) ?_
 refine RH.pv rfl (fun _ _ _ _ h => h) (Gh.le_refl _) PickC.pick rfl (PV.loadE1 rfl Sc50 rfl rfl (El.r h1 (getG (by omega))) rfl) ?_
 refine RH.pv rfl (fun _ _ _ _ h => h) (Gh.le_refl _) PickC.pick rfl (PV.move (v := v) rfl rfl) ?_
 refine RH.pv rfl (fun _ _ _ _ h => h) (Gh.le_refl _) PickC.pick rfl (PV.idxS (j := 1) (v := v) rfl Is47 rfl (SlF.r h1) rfl (by omega) (by omega)) ?_
 refine RH.pv rfl (fun _ _ _ _ h => h) (Gh.le_refl _) PickC.pick rfl (PV.loadE1 rfl Sc50 rfl rfl (El.r h1 (getG (by omega))) rfl) ?_
 refine RH.pv rfl (fun _ _ _ _ h => h) (Gh.le_refl _) PickC.pick rfl (PV.move (v := v) rfl rfl) ?_
 refine RH.pv rfl (fun _ _ _ _ h => h) (Gh.le_refl _) PickC.pick rfl (PV.idxS (j := 3) (v := v) rfl Is47 rfl (SlF.r h1) rfl (by omega) (by omega)) ?_
 refine RH.pv rfl (fun _ _ _ _ h => h) (Gh.le_refl _) PickC.pick rfl (PV.loadE1 rfl Sc50 rfl rfl (El.r h1 (getG (by omega))) rfl) ?_
 refine RH.pv rfl (fun _ _ _ _ h => h) (Gh.le_refl _) PickC.pick rfl (PV.move (v := v) rfl rfl) ?_
 refine RH.pv rfl (fun _ _ _ _ h => h) (Gh.le_refl _) PickC.pick rfl (PV.idxS (j := 5) (v := v) rfl Is47 rfl (SlF.r h1) rfl (by omega) (by omega)) ?_
 refine RH.pv rfl (fun _ _ _ _ h => h) (Gh.le_refl _) PickC.pick rfl (PV.loadE1 rfl Sc50 rfl rfl (El.r h1 (getG (by omega))) rfl) ?_
 refine RH.ot rfl rfl (OT.callF (vs := [_, _]) rfl En190 rfl (diff_s (Rs.up (hd 0 (by omega))) (Rs.up (hd 1 (by omega))) (fun v9 => ⟨Gh.le_refl _, PickC.pick, ?_⟩)))
 refine RH.ot rfl rfl (OT.callF (vs := [_]) rfl En191 rfl (clone_rects (Rs.up (hd _ (by omega))) (hbi _ (by omega)) (fun v13 => ⟨Gh.le_refl _, PickC.pick, ?_⟩)))
 refine RH.ot rfl rfl (OT.callF (vs := [_]) rfl En191 rfl (clone_rects (Rs.up (hd _ (by omega))) (hbi _ (by omega)) (fun v17 => ⟨Gh.le_refl _, PickC.pick, ?_⟩)))
 refine RH.ot rfl rfl (OT.callF (vs := [_]) rfl En191 rfl (clone_rects (Rs.up (hd _ (by omega))) (hbi _ (by omega)) (fun v21 => ⟨Gh.le_refl _, PickC.pick, ?_⟩)))
 refine RH.ot rfl rfl (OT.bslice (F := (slT (α := Rect))) (els := [⟨v9, opR (fun p q => p && !q) (gd xs 0).xs (gd xs 1).xs⟩, ⟨v13, (gd xs 1).xs⟩, ⟨v17, (gd xs 3).xs⟩, ⟨v21, (gd xs 5).xs⟩]) rfl El47 rfl (by decide) rfl (by decide) ⟨rfl, (Cl.s (v := v9) SlF.o), ⟨rfl, (Cl.s (v := v13) SlF.o), ⟨rfl, (Cl.s (v := v17) SlF.o), ⟨rfl, (Cl.s (v := v21) SlF.o), trivial⟩⟩⟩⟩ fun v22 => ⟨Gh.le_refl _, PickC.pick, ?_⟩)
 refine RH.pv rfl (fun _ _ _ _ h => h) (Gh.le_refl _) PickC.pick rfl (PV.asg (v := v22) rfl rfl) ?_
 refine RH.nil ?_
 refine WP.ret ?_
 exact ⟨_, _, ResV.one rfl rfl, (Cv.p (C := osl 50 slT v22 [(⟨v9, opR (fun p q => p && !q) (gd xs 0).xs (gd xs 1).xs⟩ : Sl Rect), ⟨v13, (gd xs 1).xs⟩, ⟨v17, (gd xs 3).xs⟩, ⟨v21, (gd xs 5).xs⟩] :: osl 140 rectT v9 (opR (fun p q => p && !q) (gd xs 0).xs (gd xs 1).xs) :: osl 140 rectT v13 (gd xs 1).xs :: osl 140 rectT v17 (gd xs 3).xs :: osl 140 rectT v21 (gd xs 5).xs :: L)).trans (Cv.cons (Cv.toBag (B := [osl 140 rectT v9 (opR (fun p q => p && !q) (gd xs 0).xs (gd xs 1).xs), osl 140 rectT v13 (gd xs 1).xs, osl 140 rectT v17 (gd xs 3).xs, osl 140 rectT v21 (gd xs 5).xs]))), k v22 [⟨v9, opR (fun p q => p && !q) (gd xs 0).xs (gd xs 1).xs⟩, ⟨v13, (gd xs 1).xs⟩, ⟨v17, (gd xs 3).xs⟩, ⟨v21, (gd xs 5).xs⟩] rfl⟩
end Go.Proofs.YthhjapiggekjbaaGreat
namespace Go.Proofs.YthhjapiggekjbaaGreat
set_option linter.unusedVariables false
set_option linter.unusedSimpArgs false
open Go
set_option maxRecDepth 20000
set_option linter.unusedSimpArgs false
variable {G : Gh} {L : List Ch} {R : Value → Gh → List Ch → Prop}
/-- the pieces of the first n conductors: each with its layer -/
noncomputable def pcL (l : List (List Rect)) (n : Nat) : List (Int × List Bool) := ((List.range n).map fun i => (comps (gd (condB l) i)).map fun c => (gd [0, 1, 3, 5] i, c)).flatten
theorem pcL_succ (l : List (List Rect)) (n : Nat) : pcL l (n + 1) = pcL l n ++ (comps (gd (condB l) n)).map fun c => (gd [0, 1, 3, 5] n, c) := by
 simp [pcL, List.range_succ]
theorem comps_len (S : List Bool) : (comps S).length ≤ 6400 := by
 have := firsts_len S 6400
 simpa [comps] using this
theorem pcL_len (l : List (List Rect)) : ∀ n, (pcL l n).length ≤ 6400 * n
 | 0 => by simp [pcL]
 | n + 1 => by
   have h1 := pcL_len l n
   have h2 := comps_len (gd (condB l) n)
   rw [pcL_succ, List.length_append, List.length_map]; omega
def pcR (p : Int × List Bool) : Int × List Rect := (p.1, canon p.2)
theorem regs_append (xs ys : List Piece) : regs (xs ++ ys) = regs xs ++ regs ys := by simp [regs]
theorem drop_gd {α : Type} [Inhabited α] {xs : List α} {i : Nat} (h : i < xs.length) : xs.drop i = gd xs i :: xs.drop (i + 1) := by rw [List.drop_eq_getElem_cons h, gd_eq h]
theorem gd_app_at {α : Type} [Inhabited α] {xs ys : List α} {i : Nat} : gd (xs ++ ys) (xs.length + i) = gd ys i := by simp [gd, List.getElem?_append_right]
/-- a list whose parts lie at the end of a bag -/
theorem RsE.right {α : Type} {G : Gh} {L L' : List Ch} {e : TypeId} {F : FT α} {ws xs : List (Sl α)} [hX : ExBg (ws ++ xs) L e F L'] : RsE G L F xs := fun i hi => by
 have := Rs.inBag (G := G) (L := L) (L' := L') (e := e) (F := F) (xs := ws ++ xs) (ws.length + i) (by simp; omega)
 rwa [gd_app_at] at this
theorem Rs.inRight {α : Type} {G : Gh} {L L' : List Ch} {e : TypeId} {F : FT α} {ws xs : List (Sl α)} (j : Nat) (hj : j < xs.length) [hX : ExBg (ws ++ xs) L e F L'] : Rs G L F (gd xs j).v (gd xs j).xs := RsE.right (L := L) (L' := L') (e := e) (ws := ws) j hj
theorem WP.sl {α : Type} {P : Program} {n : Nat} {c : Code} {Q : Post} {σ : Nat → Value} {G : Gh} {L : List Ch} {F : FT α} {v : Value} {xs : List α} (h : Rs G L F v xs) (k : IsSl v xs.length → WP P n c Q σ G L) : WP P n c Q σ G L := WP.of fun hk _ _ ha hs => (k (h _ hs).1).run hk ha hs
theorem SlF.i {G : Gh} {L : List Ch} {v : Value} {m : Nat} (h : IsSl v m) : SlF G L v m := fun _ _ => h
theorem Cv.pre {L L' : List Ch} (h : Cv L L') : ∀ A : List Ch, Cv (A ++ L) (A ++ L')
 | [] => h
 | _ :: A => Cv.cons (Cv.pre h A)
theorem Cv.bagJoin {α : Type} {e : TypeId} {F : FT α} {xs ys : List (Sl α)} {L : List Ch} : Cv (bagS e F xs :: bagS e F ys :: L) (bagS e F (xs ++ ys) :: L) := by
 unfold bagS
 refine Cv.ofBag.trans ((Cv.pre Cv.ofBag _).trans ?_)
 rw [← List.append_assoc, ← List.map_append]
 exact Cv.toBag
def mkP (n : Int) (s : Sl Rect) : Piece := ⟨n, s⟩
theorem regs_mkP (n : Int) (zs : List (Sl Rect)) : regs (zs.map (mkP n)) = zs := by simp [regs, mkP, Function.comp_def]
theorem pieces_s {v : Value} {xs : List (Sl Rect)} (h1 : Rs G L slT v xs) (hd : RsE G L rectT xs) (hlay : isLay (er xs) = true) (k : ∀ v' ps, erPs ps = (pcL (er xs) 4).map pcR → R v' G (osl 63 pieceT v' ps :: bagS 140 rectT (regs ps) :: L)) : CallT Tryz.prog 87 #[v] G L R := by
 have h8 : xs.length = 8 := by have := isLay_len hlay; rwa [er_len] at this
 have hreg : ∀ i, i < 8 → isReg (gd xs i).xs = true := fun i hi => by rw [← er_gd]; exact isLay_reg hlay hi
 refine CallT.enter (args := _) Tryz.func87 rfl rfl (by kernel_rfl) rfl ?_
 refine WP.seq (WP.region (RG.pv rfl (PV.asg rfl rfl) (RG.nil (WP.seq (WP.region ?_)))))
 refine RG.ot rfl (OT.bslice (F := pieceT) (els := []) rfl El78 rfl (by decide) rfl (by decide) trivial fun v9 => ?_)
 refine RG.ot rfl (OT.bslice (F := intT) (els := [_, _, _, _]) rfl El26 rfl (by decide) rfl (by decide) ⟨rfl, (Cl.c rfl), ⟨rfl, (Cl.c rfl), ⟨rfl, (Cl.c rfl), ⟨rfl, (Cl.c rfl), trivial⟩⟩⟩⟩ fun v10 => ?_)
 refine RG.pv rfl (PV.asg (v := v9) rfl rfl) (RG.pv rfl (PV.asg (v := v10) rfl rfl) (RG.nil (WP.seq (WP.seq (WP.region (RG.pv rfl (PV.move (v := v) rfl rfl) ?_))))))
 refine RG.callF (vs := [v]) rfl rfl En136 rfl (conductors_s (Rs.up h1) hd.up h8 (fun i hi => by have := isReg_len (hreg i hi); omega) (fun v12 ysv12 hev12 => ?_))
 refine RG.pv rfl (PV.len (v := v12) rfl Tryz.underlying47 rfl SlF.o) (RG.ml rfl rfl rfl (RG.nil (WP.block ?_)))
 have hcy : er ysv12 = (condB (er xs)).map canon := by
   rw [hev12, ← er_gd, ← er_gd, ← er_gd, ← er_gd, ← condR_eq hlay, condR, hlay]; rfl
 have hy4 : ysv12.length = 4 := by have := congrArg List.length hcy; rw [er_len] at this; exact this
 refine WP.cv ((Cv.p (C := osl 63 pieceT v9 ([] : List Piece) :: osl 2 intT v10 [0, 1, 3, 5] :: osl 50 slT v12 ysv12 :: bagS 140 rectT ysv12 :: L)).trans (Cv.cons (Cv.bag0 (e := 140) (F := rectT) (xs := regs []) rfl))) ?_
 refine WP.loop3 [4, 12, 13] (fun (i : Nat) (ps : List Piece) (q : Value) => i ≤ 4 ∧ erPs ps = (pcL (er xs) i).map pcR) (fun (i : Nat) (ps : List Piece) (q : Value) => [(14, vi i), (3, q)]) (fun (i : Nat) (ps : List Piece) (q : Value) => osl 63 pieceT q ps :: bagS 140 rectT (regs ps) :: osl 2 intT v10 [0, 1, 3, 5] :: osl 50 slT v12 ysv12 :: bagS 140 rectT ysv12 :: L) (fun (i : Nat) (ps : List Piece) (q : Value) => 4 - i) 0 [] v9 ⟨by omega, rfl⟩ ⟨rfl, rfl, trivial⟩ Cv.p ?_
 rintro i ps q τ ⟨hi, hps⟩
 refine WP.seq (WP.region (RG.pv rfl (PV.lss rfl rfl rfl) (RG.nil (WP.seq ?_))))
 have hpl : ps.length ≤ 6400 * 4 := by
   have := congrArg List.length hps
   have h2 := pcL_len (er xs) i
   rw [erPs_len, List.length_map] at this; omega
 refine WP.cond rfl (fun h2 => ?_) (fun h2 => ?_)
 · have h2 := of_decide_eq_true h2
   have hi4 : i < 4 := by omega
   refine WP.skip (WP.seq (WP.block (WP.seq (WP.region (RG.ml rfl rfl rfl (RG.pv rfl (PV.idxS (v := v12) rfl Is47 rfl SlF.o rfl rfl (by omega)) (RG.pv rfl (PV.loadE1 rfl Sc50 rfl rfl (El.o (getG (by omega))) rfl) ?_)))))))
   refine RG.mr rfl rfl rfl (RG.pv rfl (PV.asg rfl rfl) (RG.nil (WP.seq (WP.region (RG.pv rfl (PV.move rfl rfl) ?_)))))
   refine RG.callF (vs := [_]) rfl rfl En73 rfl (components_s (Rs.inBag (xs := ysv12) i (by omega)) (fun v20 zs hz => ?_))
   refine RG.pv rfl (PV.len (v := v20) rfl Tryz.underlying47 rfl SlF.o) (RG.ml rfl rfl rfl (RG.nil (WP.block ?_)))
   have hzl := parts_len hz
   have hcz : er zs = (comps (gd (condB (er xs)) i)).map canon := by
     rw [hz, ← er_gd, hcy, gd_map _ (by simp [condB]; omega), bits_canon (condB_len _ hi4)]; rfl
   refine WP.cv ((Cv.p (C := bagS 140 rectT (regs ps) :: bagS 140 rectT zs :: osl 63 pieceT q ps :: osl 50 slT v20 zs :: osl 2 intT v10 [0, 1, 3, 5] :: osl 50 slT v12 ysv12 :: bagS 140 rectT ysv12 :: L)).trans (Cv.bagJoin.trans ((Cv.p (C := osl 63 pieceT q ps :: bagS 140 rectT (regs ps ++ zs) :: osl 50 slT v20 zs :: osl 2 intT v10 [0, 1, 3, 5] :: osl 50 slT v12 ysv12 :: bagS 140 rectT ysv12 :: L)).trans (Cv.cast (L' := osl 63 pieceT q (ps ++ (zs.take 0).map (mkP (gd [0, 1, 3, 5] i))) :: bagS 140 rectT (regs ps ++ zs) :: osl 50 slT v20 zs :: osl 2 intT v10 [0, 1, 3, 5] :: osl 50 slT v12 ysv12 :: bagS 140 rectT ysv12 :: L) (by simp))))) ?_
   refine WP.loop2 [4, 5, 12, 13, 14, 20, 21] (fun (j : Nat) (q1 : Value) => j ≤ zs.length) (fun (j : Nat) (q1 : Value) => [(22, vi j), (3, q1)]) (fun (j : Nat) (q1 : Value) => osl 63 pieceT q1 (ps ++ (zs.take j).map (mkP (gd [0, 1, 3, 5] i))) :: bagS 140 rectT (regs ps ++ zs) :: osl 50 slT v20 zs :: osl 2 intT v10 [0, 1, 3, 5] :: osl 50 slT v12 ysv12 :: bagS 140 rectT ysv12 :: L) (fun (j : Nat) (q1 : Value) => zs.length - j) 0 q (by omega) ⟨rfl, rfl, trivial⟩ Cv.p ?_
   rintro j q1 τ1 hj
   refine WP.seq (WP.region (RG.pv rfl (PV.lss rfl rfl rfl) (RG.nil (WP.seq ?_))))
   have hlt : (ps ++ (zs.take j).map (mkP (gd [0, 1, 3, 5] i))).length = ps.length + j := by simp; omega
   refine WP.cond rfl (fun h3 => ?_) (fun h3 => ?_)
   · have h3 := of_decide_eq_true h3
     have hn4 : ([0, 1, 3, 5] : List Int).length = 4 := rfl
     refine WP.sl (Rs.inRight (ws := regs ps) (xs := zs) j (by omega)) fun hI => ?_
     refine WP.skip (WP.seq (WP.block (WP.seq (WP.region (RG.pv rfl (PV.idxS (v := v20) rfl Is47 rfl SlF.o rfl rfl (by omega)) (RG.pv rfl (PV.loadE1 rfl Sc50 rfl rfl (El.o (getG (by omega))) rfl) (RG.pv rfl (PV.asg rfl rfl) ?_)))))))
     refine RG.nil (WP.region (RG.pv rfl (PV.move (v := q1) rfl rfl) (RG.pv rfl (PV.move (v := v10) rfl rfl) (RG.ml rfl rfl rfl (RG.pv rfl (PV.idxS (v := v10) rfl Is26 rfl SlF.o rfl rfl (by omega)) (RG.pv rfl (PV.loadE1 rfl Sc2 rfl rfl (El.o (getG (by omega))) rfl) (RG.pv rfl (PV.move rfl rfl) ?_)))))))
     refine RG.pv rfl (PV.build (vs := [(0, [vi _]), (1, [_])]) (out := [_, _]) rfl Zr63 Pl63 ⟨rfl, (Cl.c rfl), ⟨rfl, (Cl.s (SlF.i hI)), trivial⟩⟩ rfl) ?_
     refine RG.ot rfl (OT.bslice (F := pieceT) (els := [⟨gd [0, 1, 3, 5] i, gd zs j⟩]) rfl El78 rfl (by decide) rfl (by decide) ⟨rfl, (Cl.c rfl), trivial⟩ fun v33 => ?_)
     refine RG.ot rfl (OT.append (v := q1) (u := v33) (F := pieceT) rfl El78 rfl (by decide) rfl rfl Rs.o (OneL.one (OneC.val rfl (OneC.sl (SlF.i hI) OneC.nil))) rfl (by first | omega | (simp <;> omega)) fun v34 => ?_)
     refine RG.pv rfl (PV.asg (v := v34) rfl rfl) (RG.nil (WP.region (RG.pv rfl (PV.add rfl rfl rfl (by omega)) (RG.ml rfl rfl rfl (RG.nil ?_)))))
     exact ⟨rfl, j + 1, v34, (by omega), ⟨rfl, rfl, trivial⟩, ⟨rfl, rfl, rfl, rfl, rfl, rfl, rfl, trivial⟩, (Cv.p (C := osl 63 pieceT v34 (ps ++ (zs.take j).map (mkP (gd [0, 1, 3, 5] i)) ++ [⟨gd [0, 1, 3, 5] i, gd zs j⟩]) :: bagS 140 rectT (regs ps ++ zs) :: osl 50 slT v20 zs :: osl 2 intT v10 [0, 1, 3, 5] :: osl 50 slT v12 ysv12 :: bagS 140 rectT ysv12 :: L)).trans (Cv.cast (by rw [List.take_add_one, getG (by omega), List.map_append, List.append_assoc]; rfl)), by omega⟩
   · have h3 := of_decide_eq_false h3
     obtain rfl : j = zs.length := by omega
     refine WP.exit ?_
     refine WP.region (RG.pv rfl (PV.add rfl rfl rfl (by omega)) (RG.ml rfl rfl rfl (RG.nil ?_)))
     refine ⟨rfl, i + 1, (ps ++ zs.map (mkP (gd [0, 1, 3, 5] i))), q1, ⟨by omega, ?_⟩, ⟨rfl, rfl, trivial⟩, ⟨rfl, rfl, rfl, trivial⟩, (Cv.p (C := osl 63 pieceT q1 (ps ++ (zs.take zs.length).map (mkP (gd [0, 1, 3, 5] i))) :: bagS 140 rectT (regs ps ++ zs) :: osl 2 intT v10 [0, 1, 3, 5] :: osl 50 slT v12 ysv12 :: bagS 140 rectT ysv12 :: L)).trans (Cv.cast (by rw [List.take_length, regs_append, regs_mkP])), by omega⟩
     rw [pcL_succ, List.map_append, ← hps, erPs, List.map_append]
     congr 1
     have e : ∀ zs : List (Sl Rect), (zs.map (mkP (gd [0, 1, 3, 5] i))).map erP = (er zs).map fun r => (gd [0, 1, 3, 5] i, r) := fun zs => by simp [er, erP, mkP, Function.comp_def]
     rw [e, hcz, List.map_map, List.map_map]; rfl
 · have h2 := of_decide_eq_false h2
   obtain rfl : i = 4 := by omega
   refine WP.exit ?_
   refine WP.seq (WP.region (RG.pv rfl (PV.move (v := q) rfl rfl) (RG.pv rfl (PV.asg (v := q) rfl rfl) (RG.nil ?_))))
   refine WP.ret ?_
   exact ⟨_, _, ResV.one rfl rfl, Cv.p, k q ps hps⟩
noncomputable def pcE (l : List (List Rect)) : List (Int × List Rect) := bif isLay l then (pcL l 4).map pcR else []
theorem comps_mem {S : List Bool} {c : List Bool} (h : c ∈ comps S) : c.length = 6400 := by
 obtain ⟨j, _, rfl⟩ := List.mem_map.1 h; exact compB_len _ _
end Go.Proofs.YthhjapiggekjbaaGreat
namespace Go.Proofs.YthhjapiggekjbaaGreat
set_option linter.unusedVariables false
set_option linter.unusedSimpArgs false
open Go
set_option linter.unusedSimpArgs false
def cmn (a b : Rect) : Rect := ⟨max a.x0 b.x0, max a.y0 b.y0, min a.x1 b.x1, min a.y1 b.y1⟩
def ovl (a b : Rect) : Bool := validRect a && validRect b && validRect (cmn a b)
def meetB (a b : List Rect) : Bool := a.any fun x => b.any fun y => ovl x y
def meetIn (a b c : List Rect) : Bool := a.any fun x => b.any fun y => validRect (cmn x y) && meetB [cmn x y] c
theorem validR_iff {r : Rect} : validRect r = true ↔ -40 ≤ r.x0 ∧ r.x0 < r.x1 ∧ r.x1 ≤ 40 ∧ -40 ≤ r.y0 ∧ r.y0 < r.y1 ∧ r.y1 ≤ 40 := by simp [validRect, and_assoc]
theorem inR_iff {r : Rect} {y x : Nat} : inR r y x = true ↔ r.x0 + 40 ≤ x ∧ (x : Int) < r.x1 + 40 ∧ r.y0 + 40 ≤ y ∧ (y : Int) < r.y1 + 40 := by simp [inR, and_assoc]
theorem inR_cmn {a b : Rect} {y x : Nat} : inR (cmn a b) y x = true ↔ inR a y x = true ∧ inR b y x = true := by
 simp only [inR_iff, cmn]; omega
theorem valid_cell {r : Rect} (h : validRect r = true) : ∃ y x, y < 80 ∧ x < 80 ∧ inR r y x = true := by
 rw [validR_iff] at h
 exact ⟨(r.y0 + 40).toNat, (r.x0 + 40).toNat, by omega, by omega, inR_iff.2 (by omega)⟩
theorem inR_lt {r : Rect} (h : validRect r = true) {y x : Nat} (hi : inR r y x = true) : y < 80 ∧ x < 80 := by
 rw [validR_iff] at h; rw [inR_iff] at hi; omega
theorem cmn_valid {a b : Rect} (ha : validRect a = true) (hb : validRect b = true) {y x : Nat} (h1 : inR a y x = true) (h2 : inR b y x = true) : validRect (cmn a b) = true := by
 rw [validR_iff] at *; rw [inR_iff] at h1 h2; simp only [cmn]; omega
theorem ovl_iff {a b : Rect} (ha : validRect a = true) (hb : validRect b = true) : ovl a b = true ↔ ∃ y x, y < 80 ∧ x < 80 ∧ inR a y x = true ∧ inR b y x = true := by
 simp only [ovl, ha, hb, Bool.true_and]
 constructor
 · intro h
   obtain ⟨y, x, h1, h2, h3⟩ := valid_cell h
   exact ⟨y, x, h1, h2, inR_cmn.1 h3⟩
 · rintro ⟨y, x, _, _, h1, h2⟩; exact cmn_valid ha hb h1 h2
theorem valid_mem {xs : List Rect} (h : validRs xs = true) {r : Rect} (hr : r ∈ xs) : validRect r = true := by
 simp only [validRs, Bool.and_eq_true, List.all_eq_true] at h; exact h.2 r hr
theorem gb_bits_iff {rs : List Rect} {y x : Nat} (hy : y < 80) (hx : x < 80) : gb (bits rs) y x = true ↔ ∃ r ∈ rs, inR r y x = true := by
 rw [gb_bits' rs hy hx, List.any_eq_true]
theorem meetB_iff {a b : List Rect} (ha : validRs a = true) (hb : validRs b = true) : meetB a b = true ↔ ∃ y x, y < 80 ∧ x < 80 ∧ gb (bits a) y x = true ∧ gb (bits b) y x = true := by
 simp only [meetB, List.any_eq_true]
 constructor
 · rintro ⟨p, hp, q, hq, h⟩
   obtain ⟨y, x, hy, hx, h1, h2⟩ := (ovl_iff (valid_mem ha hp) (valid_mem hb hq)).1 h
   exact ⟨y, x, hy, hx, (gb_bits_iff hy hx).2 ⟨p, hp, h1⟩, (gb_bits_iff hy hx).2 ⟨q, hq, h2⟩⟩
 · rintro ⟨y, x, hy, hx, h1, h2⟩
   obtain ⟨p, hp, h3⟩ := (gb_bits_iff hy hx).1 h1
   obtain ⟨q, hq, h4⟩ := (gb_bits_iff hy hx).1 h2
   exact ⟨p, hp, q, hq, (ovl_iff (valid_mem ha hp) (valid_mem hb hq)).2 ⟨y, x, hy, hx, h3, h4⟩⟩
/-- three sets have a common cell -/
def mt (A B C : List Bool) : Bool := (List.range 6400).any fun n => gd A n && gd B n && gd C n
theorem mt_iff {A B C : List Bool} : mt A B C = true ↔ ∃ y x, y < 80 ∧ x < 80 ∧ gb A y x = true ∧ gb B y x = true ∧ gb C y x = true := by
 simp only [mt, List.any_eq_true, List.mem_range, Bool.and_eq_true, gb]
 constructor
 · rintro ⟨n, hn, ⟨h1, h2⟩, h3⟩
   have e : n / 80 * 80 + n % 80 = n := by omega
   exact ⟨n / 80, n % 80, by omega, by omega, by rw [e]; exact h1, by rw [e]; exact h2, by rw [e]; exact h3⟩
 · rintro ⟨y, x, hy, hx, h1, h2, h3⟩
   exact ⟨y * 80 + x, by omega, ⟨h1, h2⟩, h3⟩
theorem meetIn_iff {a b c : List Rect} (ha : validRs a = true) (hb : validRs b = true) (hc : validRs c = true) : meetIn a b c = mt (bits a) (bits b) (bits c) := by
 rw [Bool.eq_iff_iff, mt_iff]
 simp only [meetIn, List.any_eq_true, Bool.and_eq_true]
 constructor
 · rintro ⟨p, hp, q, hq, h, h'⟩
   have h1 : validRs [cmn p q] = true := by simp [validRs, h]
   obtain ⟨y, x, hy, hx, h2, h3⟩ := (meetB_iff h1 hc).1 h'
   obtain ⟨r, hr, h4⟩ := (gb_bits_iff hy hx).1 h2
   obtain rfl : r = cmn p q := by simpa using hr
   obtain ⟨h5, h6⟩ := inR_cmn.1 h4
   exact ⟨y, x, hy, hx, (gb_bits_iff hy hx).2 ⟨p, hp, h5⟩, (gb_bits_iff hy hx).2 ⟨q, hq, h6⟩, h3⟩
 · rintro ⟨y, x, hy, hx, h1, h2, h3⟩
   obtain ⟨p, hp, h4⟩ := (gb_bits_iff hy hx).1 h1
   obtain ⟨q, hq, h5⟩ := (gb_bits_iff hy hx).1 h2
   have h := cmn_valid (valid_mem ha hp) (valid_mem hb hq) h4 h5
   have h6 : validRs [cmn p q] = true := by simp [validRs, h]
   exact ⟨p, hp, q, hq, h, (meetB_iff h6 hc).2 ⟨y, x, hy, hx, (gb_bits_iff hy hx).2 ⟨_, .head _, inR_cmn.2 ⟨h4, h5⟩⟩, h3⟩⟩
def jnO (l : List (List Rect)) (p q : Int × List Rect) : Bool := bif decide (q.1 = 3) && decide (p.1 < 3) then meetIn p.2 q.2 (gd l 2) else decide (p.1 = 3) && decide (q.1 = 5) && meetIn p.2 q.2 (gd l 4)
def jnI (l : List (List Rect)) (p q : Int × List Rect) : Bool := bif decide (q.1 < p.1) then jnO l q p else jnO l p q
def jnR (p q : Int × List Bool) (C V : List Bool) : Bool := (List.range 6400).any fun n => gd p.2 n && gd q.2 n && (gd C n && (decide (p.1 = 3) || decide (q.1 = 3)) && !(decide (p.1 = 5) || decide (q.1 = 5)) || gd V n && (decide (p.1 = 3) || decide (q.1 = 3)) && (decide (p.1 = 5) || decide (q.1 = 5)))
theorem jnR_eq (p q : Int × List Bool) (C V : List Bool) : jnR p q C V = ((decide (p.1 = 3) || decide (q.1 = 3)) && !(decide (p.1 = 5) || decide (q.1 = 5)) && mt p.2 q.2 C || (decide (p.1 = 3) || decide (q.1 = 3)) && (decide (p.1 = 5) || decide (q.1 = 5)) && mt p.2 q.2 V) := by
 simp only [jnR, mt]
 cases (decide (p.1 = 3) || decide (q.1 = 3)) <;> cases (decide (p.1 = 5) || decide (q.1 = 5)) <;> simp
def isL (n : Int) : Prop := n = 0 ∨ n = 1 ∨ n = 3 ∨ n = 5
theorem mt_comm (A B C : List Bool) : mt A B C = mt B A C := by
 simp only [mt]; congr 1; funext n; cases gd A n <;> cases gd B n <;> rfl
/-- joined, told by cells -/
def jnL (l : List (List Rect)) (p q : Int × List Bool) : Bool := !decide (p.1 = q.1) && jnR p q (bits (gd l 2)) (bits (gd l 4))
theorem jn_eq {l : List (List Rect)} (hl : isLay l = true) {p q : Int × List Bool} (hp : isL p.1) (hq : isL q.1) (hp2 : p.2.length = 6400) (hq2 : q.2.length = 6400) : jnI l (pcR p) (pcR q) = jnL l p q := by
 have h2 := isReg_valid (isLay_reg hl (i := 2) (by omega))
 have h4 := isReg_valid (isLay_reg hl (i := 4) (by omega))
 have hP := isReg_valid (isReg_canon hp2)
 have hQ := isReg_valid (isReg_canon hq2)
 have a1 := meetIn_iff hP hQ h2; have a2 := meetIn_iff hP hQ h4; have a3 := meetIn_iff hQ hP h2; have a4 := meetIn_iff hQ hP h4
 rw [bits_canon hp2, bits_canon hq2] at a1 a2 a3 a4
 rw [mt_comm] at a3 a4
 simp only [jnL, jnR_eq, jnI, jnO, pcR, a1, a2, a3, a4]
 obtain ⟨x, P⟩ := p; obtain ⟨y, Q⟩ := q
 simp only at hp hq ⊢
 rcases hp with rfl | rfl | rfl | rfl <;> rcases hq with rfl | rfl | rfl | rfl <;> simp
theorem isL_lay {i : Nat} (h : i < 4) : isL (gd [0, 1, 3, 5] i) := by
 rcases (by omega : i = 0 ∨ i = 1 ∨ i = 2 ∨ i = 3) with rfl | rfl | rfl | rfl <;> simp [isL, gd]
def rl (lo hi c : Int) : Int := if c = hi then lo else c
def stepJ (J : Nat → Nat → Bool) (i : Nat) (cls : List Int) (k : Nat) : List Int := if gd cls k = gd cls i ∨ J k i = false then cls else cls.map (rl (min (gd cls k) (gd cls i)) (max (gd cls k) (gd cls i)))
def inJ (J : Nat → Nat → Bool) (i : Nat) (cls : List Int) (k : Nat) : List Int := (List.range k).foldl (stepJ J i) (cls ++ [(i : Int)])
def rootsJ (J : Nat → Nat → Bool) : Nat → List Int
  | 0 => []
  | i + 1 => inJ J i (rootsJ J i) i
theorem inJ_zero (J : Nat → Nat → Bool) (i : Nat) (cls : List Int) : inJ J i cls 0 = cls ++ [(i : Int)] := rfl
theorem inJ_succ (J : Nat → Nat → Bool) (i : Nat) (cls : List Int) (k : Nat) : inJ J i cls (k + 1) = stepJ J i (inJ J i cls k) k := by simp [inJ, List.range_succ]
theorem stepJ_len (J : Nat → Nat → Bool) (i : Nat) (cls : List Int) (k : Nat) : (stepJ J i cls k).length = cls.length := by
 unfold stepJ; split <;> simp
theorem inJ_len (J : Nat → Nat → Bool) (i : Nat) (cls : List Int) : ∀ k, (inJ J i cls k).length = cls.length + 1
 | 0 => by simp [inJ_zero]
 | k + 1 => by rw [inJ_succ, stepJ_len, inJ_len J i cls k]
theorem rootsJ_len (J : Nat → Nat → Bool) : ∀ n, (rootsJ J n).length = n
 | 0 => rfl
 | n + 1 => by rw [rootsJ, inJ_len, rootsJ_len J n]
/-- each class is told by its first member -/
def Rt (cls : List Int) : Prop := ∀ j, j < cls.length → 0 ≤ gd cls j ∧ gd cls j ≤ j ∧ gd cls (gd cls j).toNat = gd cls j
theorem Rt.app {cls : List Int} (h : Rt cls) : Rt (cls ++ [(cls.length : Int)]) := fun j hj => by
 have hj : j < cls.length + 1 := by simpa using hj
 by_cases e : j = cls.length
 · subst e
   rw [gd_app_r]; refine ⟨by omega, by omega, ?_⟩
   rw [Int.toNat_natCast, gd_app_r]
 · have hj : j < cls.length := by omega
   obtain ⟨h1, h2, h3⟩ := h j hj
   rw [gd_app_l hj]
   exact ⟨h1, h2, by rw [gd_app_l (by omega)]; exact h3⟩
theorem Rt.map {cls : List Int} (h : Rt cls) {lo hi : Int} (hl : lo < hi) {k : Nat} (hk : k < cls.length) (hlo : gd cls k = lo) : Rt (cls.map (rl lo hi)) := fun j hj => by
 have hj : j < cls.length := by simpa using hj
 obtain ⟨h1, h2, h3⟩ := h j hj
 obtain ⟨g1, g2, g3⟩ := h k hk
 rw [gd_map _ hj]
 unfold rl
 split
 · rename_i e
   refine ⟨by omega, by omega, ?_⟩
   rw [gd_map _ (by omega), hlo] at *
   rw [g3, if_neg (by omega)]
 · rename_i e
   refine ⟨h1, h2, ?_⟩
   rw [gd_map _ (by omega), h3, if_neg e]
theorem Rt.step {cls : List Int} (h : Rt cls) {J : Nat → Nat → Bool} {i k : Nat} (hi : i < cls.length) (hk : k < cls.length) : Rt (stepJ J i cls k) := by
 unfold stepJ
 split
 · exact h
 · rename_i e
   rw [not_or] at e
   by_cases c : gd cls k < gd cls i
   · exact h.map (by omega) hk (by omega)
   · exact h.map (k := i) (by omega) hi (by omega)
theorem Rt.inJ {J : Nat → Nat → Bool} {cls : List Int} (h : Rt cls) : ∀ k, k ≤ cls.length → Rt (inJ J cls.length cls k)
 | 0, _ => by rw [inJ_zero]; exact h.app
 | k + 1, hk => by
   rw [inJ_succ]
   exact (Rt.inJ h k (by omega)).step (by rw [inJ_len]; omega) (by rw [inJ_len]; omega)
theorem rt_roots (J : Nat → Nat → Bool) : ∀ n, Rt (rootsJ J n)
 | 0 => fun j hj => by simp [rootsJ] at hj
 | n + 1 => by
   have := (rt_roots J n).inJ (J := J) n (by rw [rootsJ_len]; omega)
   rw [rootsJ_len] at this; exact this
def mapTo (f : Int → Int) (d : List Int) (m : Nat) : List Int := (d.take m).map f ++ d.drop m
theorem mapTo_zero (f : Int → Int) (d : List Int) : mapTo f d 0 = d := by simp [mapTo]
theorem mapTo_len (f : Int → Int) (d : List Int) {m : Nat} (h : m ≤ d.length) : (mapTo f d m).length = d.length := by simp [mapTo]; omega
theorem mapTo_gd {f : Int → Int} {d : List Int} {m : Nat} (h : m < d.length) : gd (mapTo f d m) m = gd d m := by
 simp only [gd, mapTo]
 rw [List.getElem?_append_right (by simp; omega)]
 simp only [List.length_map, List.length_take, List.getElem?_drop]
 congr 2; omega
theorem mapTo_set {f : Int → Int} {d : List Int} {m : Nat} (h : m < d.length) : (mapTo f d m).set m (f (gd d m)) = mapTo f d (m + 1) := by
 have hl : ((d.take m).map f).length = m := by simp; omega
 simp only [mapTo]
 rw [List.set_append_right _ _ (by omega), hl, Nat.sub_self, drop_gd h, List.set_cons_zero, List.take_add_one, getG h]
 simp
theorem mapTo_skip {f : Int → Int} {d : List Int} {m : Nat} (h : m < d.length) (e : f (gd d m) = gd d m) : mapTo f d (m + 1) = mapTo f d m := by
 rw [← mapTo_set h, e, ← mapTo_gd (f := f) h]
 exact (set_self (by rw [mapTo_len f d (by omega)]; exact h)).symm
theorem mapTo_all {f : Int → Int} {c z : List Int} : mapTo f (c ++ z) c.length = c.map f ++ z := by simp [mapTo]
def cntR (cls : List Int) (m : Nat) : Nat := ((List.range m).filter fun j => decide (gd cls j = (j : Int))).length
def numR (cls : List Int) (i : Nat) : Nat := cntR cls (gd cls i).toNat
theorem cntR_succ (cls : List Int) (m : Nat) : cntR cls (m + 1) = cntR cls m + if gd cls m = (m : Int) then 1 else 0 := by
 unfold cntR
 rw [List.range_succ, List.filter_append, List.length_append]
 congr 1
 split <;> simp [*]
theorem cntR_mono (cls : List Int) {m : Nat} : ∀ {n : Nat}, m ≤ n → cntR cls m ≤ cntR cls n
 | 0, h => by obtain rfl : m = 0 := by omega
              exact Nat.le_refl _
 | n + 1, h => by
   by_cases e : m = n + 1
   · rw [e]; exact Nat.le_refl _
   · have := cntR_mono cls (m := m) (n := n) (by omega)
     rw [cntR_succ]; omega
theorem numR_root {cls : List Int} {i : Nat} (h : gd cls i = (i : Int)) : numR cls i = cntR cls i := by rw [numR, h, Int.toNat_natCast]
theorem numR_lt {cls : List Int} (h : Rt cls) {i m : Nat} (hi : i < cls.length) (hm : i < m) : numR cls i < cntR cls m := by
 obtain ⟨h1, h2, h3⟩ := h i hi
 have h4 := cntR_mono cls (m := (gd cls i).toNat + 1) (n := m) (by omega)
 rw [cntR_succ, if_pos (by rw [h3]; omega)] at h4
 rw [numR]; omega
/-- the lists of a partition by numbers, as far as the first i members go -/
def netsP {α : Type} [Inhabited α] (cls : List Int) (xs : List α) (i : Nat) : List (List α) := (List.range (cntR cls i)).map fun k => ((List.range i).filter fun j => decide (numR cls j = k)).map (gd xs)
theorem netsP_len {α : Type} [Inhabited α] (cls : List Int) (xs : List α) (i : Nat) : (netsP cls xs i).length = cntR cls i := by simp [netsP]
theorem netsP_gd {α : Type} [Inhabited α] {cls : List Int} {xs : List α} {i k : Nat} (h : k < cntR cls i) : gd (netsP cls xs i) k = ((List.range i).filter fun j => decide (numR cls j = k)).map (gd xs) := by
 rw [netsP, gd_map _ (by simpa using h)]
 simp [gd, h]
noncomputable def JL (l : List (List Rect)) (k i : Nat) : Bool := jnL l (gd (pcL l 4) k) (gd (pcL l 4) i)
noncomputable def clsL (l : List (List Rect)) : List Int := rootsJ (JL l) (pcL l 4).length
theorem clsL_len (l : List (List Rect)) : (clsL l).length = (pcL l 4).length := rootsJ_len _ _
theorem clsL_rt (l : List (List Rect)) : Rt (clsL l) := rt_roots _ _
noncomputable def netN (l : List (List Rect)) : Nat := cntR (clsL l) (pcL l 4).length
noncomputable def netL (l : List (List Rect)) : List (List (Int × List Rect)) := netsP (clsL l) ((pcL l 4).map pcR) (pcL l 4).length
theorem netL_len (l : List (List Rect)) : (netL l).length = netN l := netsP_len _ _ _
end Go.Proofs.YthhjapiggekjbaaGreat
namespace Go.Proofs.YthhjapiggekjbaaGreat
set_option linter.unusedVariables false
set_option linter.unusedSimpArgs false
open Go
set_option maxRecDepth 20000
set_option linter.unusedSimpArgs false
variable {G : Gh} {L : List Ch} {R : Value → Gh → List Ch → Prop}
theorem WP.cut4 {P : Program} {n : Nat} {Q : Post} {σ : Nat → Value} {x y : Code} {A B D E : Type} (keep : List Nat) (J : A → B → D → E → Prop) (S : A → B → D → E → List (Nat × Value)) (C : A → B → D → E → List Ch)
   (h : WP P n x (thenP (fun σ' G' L' => G' = G ∧ ∃ a b d e, J a b d e ∧ HasV σ' (S a b d e) ∧ Keeps σ' σ keep ∧ Cv L' (C a b d e)) Q) σ G L)
   (k : ∀ a b d e τ, J a b d e → WP P n y Q (upds (updk τ σ keep) (S a b d e)) G (C a b d e)) : WP P n (.seq x y) Q σ G L :=
 WP.cut1 keep (A := A × B × D × E) (fun x => J x.1 x.2.1 x.2.2.1 x.2.2.2) (fun x => S x.1 x.2.1 x.2.2.1 x.2.2.2) (fun x => C x.1 x.2.1 x.2.2.1 x.2.2.2) (WP.mono h fun e σ G L hq => by
     cases e with
     | normal => obtain ⟨e, a', b', d', e', h⟩ := hq; exact ⟨e, (a', b', d', e'), h⟩
     | _ => exact hq) fun a τ j => k a.1 a.2.1 a.2.2.1 a.2.2.2 τ j
theorem common_s {a b : Rect} (k : R (vrect (cmn a b)) G L) : CallT Tryz.prog 164 #[vrect a, vrect b] G L R := by
 refine CallT.enter (args := _) Tryz.func164 rfl rfl (by kernel_rfl) rfl ?_
 refine WP.seq (WP.region ?_)
 refine RG.ot rfl (OT.box (cs := rectT.enc a) rfl rfl rfl fun b2 => ?_)
 refine RG.ot rfl (OT.box (cs := rectT.enc b) rfl rfl rfl fun b3 => ?_)
 refine RG.ot rfl (OT.alloc rfl Zr140 fun b4 => ?_)
 refine RG.nil (WP.seq (WP.region (RG.pv rfl (PV.field rfl Fo140_0 rfl) (RG.pv rfl (PV.load1 rfl Sc2 rfl (Rd.blk rfl)) (RG.pv rfl (PV.field rfl Fo140_0 rfl) (RG.pv rfl (PV.load1 rfl Sc2 rfl (Rd.blk rfl)) (RG.pv rfl (PV.max2 rfl rfl rfl) ?_)))))))
 refine RG.pv rfl (PV.field rfl Fo140_1 rfl) (RG.pv rfl (PV.load1 rfl Sc2 rfl (Rd.blk rfl)) (RG.pv rfl (PV.field rfl Fo140_1 rfl) (RG.pv rfl (PV.load1 rfl Sc2 rfl (Rd.blk rfl)) (RG.pv rfl (PV.max2 rfl rfl rfl) (RG.pv rfl (PV.field rfl Fo140_2 rfl) (RG.pv rfl (PV.load1 rfl Sc2 rfl (Rd.blk rfl)) (RG.pv rfl (PV.field rfl Fo140_2 rfl) ?_)))))))
 refine RG.pv rfl (PV.load1 rfl Sc2 rfl (Rd.blk rfl)) (RG.pv rfl (PV.min2 rfl rfl rfl) (RG.pv rfl (PV.field rfl Fo140_3 rfl) (RG.pv rfl (PV.load1 rfl Sc2 rfl (Rd.blk rfl)) (RG.pv rfl (PV.field rfl Fo140_3 rfl) (RG.pv rfl (PV.load1 rfl Sc2 rfl (Rd.blk rfl)) (RG.pv rfl (PV.min2 rfl rfl rfl) (RG.pv rfl (PV.build (vs := [(0, [vi _]), (1, [vi _]), (2, [vi _]), (3, [vi _])]) (out := [_, _, _, _]) rfl Zr140 Pl140 ⟨rfl, (Cl.c rfl), ⟨rfl, (Cl.c rfl), ⟨rfl, (Cl.c rfl), ⟨rfl, (Cl.c rfl), trivial⟩⟩⟩⟩ rfl) ?_)))))))
 refine RG.ot rfl (OT.storeW (vs := [vi _, vi _, vi _, vi _]) rfl Sz140 rfl rfl (Cl.c rfl) rfl rfl (OneC.c rfl) ?_)
 refine RG.nil ?_
 refine WP.ret ?_
 exact ⟨_, _, ResV.one rfl (RV1.cell rfl Ag140 rfl), Cv.p, k⟩
theorem ovl_s {a b : Rect} (k : R (.bool (ovl a b)) G L) : CallT Tryz.prog 118 #[vrect a, vrect b] G L R := by
 refine CallT.enter (args := _) Tryz.func118 rfl rfl (by kernel_rfl) rfl ?_
 refine WP.seq (WP.region ?_)
 refine RG.ot rfl (OT.box (cs := rectT.enc a) rfl rfl rfl fun b2 => ?_)
 refine RG.ot rfl (OT.box (cs := rectT.enc b) rfl rfl rfl fun b3 => ?_)
 refine RG.br rfl rfl rfl (RG.nil (WP.seq (WP.region (RG.pv rfl (PV.loadW rfl Ag140 rfl rfl) ?_))))
 refine RG.callF (vs := [_]) rfl rfl En83 rfl (validRect_s ?_)
 refine RG.bl rfl rfl rfl ?_
 refine RG.gs rfl rfl rfl (fun hp => (PV.loadW rfl Ag140 rfl rfl)) ?_
 refine RG.gsC rfl rfl rfl rfl En83 (fun hp => ⟨_, (acons (gs_t hp) anil), validRect_s ⟨rfl, rfl, rfl⟩⟩) ?_
 refine RG.pv rfl (PV.pickA rfl rfl (fun hq => gs_t (geqT hq)) rfl) (RG.bl rfl rfl rfl ?_)
 refine RG.gs rfl rfl rfl (fun hp => (PV.loadW rfl Ag140 rfl rfl)) ?_
 refine RG.gs rfl rfl rfl (fun hp => (PV.loadW rfl Ag140 rfl rfl)) ?_
 refine RG.gsC rfl rfl rfl rfl En164 (fun hp => ⟨_, (acons (gs_t hp) (acons (gs_t hp) anil)), common_s ⟨rfl, rfl, rfl⟩⟩) ?_
 refine RG.gsC rfl rfl rfl rfl En83 (fun hp => ⟨_, (acons (gs_t hp) anil), validRect_s ⟨rfl, rfl, rfl⟩⟩) ?_
 refine RG.pv rfl (PV.pickA rfl rfl (fun hq => gs_t (geqT hq)) rfl) (RG.br rfl rfl rfl (RG.nil ?_))
 refine WP.ret ?_
 exact ⟨_, _, ResV.one rfl rfl, Cv.p, k⟩
theorem gd_mem {α : Type} [Inhabited α] {xs : List α} {i : Nat} (h : i < xs.length) : gd xs i ∈ xs := by rw [gd_eq h]; exact List.getElem_mem h
theorem any2_false {α : Type} [Inhabited α] {p : α → α → Bool} {xs ys : List α} (h : ∀ i, i < xs.length → ∀ j, j < ys.length → p (gd xs i) (gd ys j) = false) : (xs.any fun x => ys.any fun y => p x y) = false := by
 rw [List.any_eq_false]
 intro x hx
 obtain ⟨i, hi, rfl⟩ := List.getElem_of_mem hx
 rw [Bool.not_eq_true, List.any_eq_false]
 intro y hy
 obtain ⟨j, hj, rfl⟩ := List.getElem_of_mem hy
 have := h i hi j hj
 rw [gd_eq hi, gd_eq hj] at this; simp [this]
theorem any2_true {α : Type} [Inhabited α] {p : α → α → Bool} {xs ys : List α} {i j : Nat} (hi : i < xs.length) (hj : j < ys.length) (h : p (gd xs i) (gd ys j) = true) : (xs.any fun x => ys.any fun y => p x y) = true := by
 simp only [List.any_eq_true]
 exact ⟨gd xs i, gd_mem hi, gd ys j, gd_mem hj, h⟩
theorem row_next {p : Nat → Nat → Bool} {i m : Nat} (h : ∀ a, a < i → ∀ b, b < m → p a b = false) (h2 : ∀ b, b < m → p i b = false) : ∀ a, a < i + 1 → ∀ b, b < m → p a b = false := fun a ha b hb => by
 by_cases e : a = i
 · subst e; exact h2 b hb
 · exact h a (by omega) b hb
theorem col_next {p : Nat → Bool} {j : Nat} (h : ∀ b, b < j → p b = false) (h2 : p j = false) : ∀ b, b < j + 1 → p b = false := fun b hb => by
 by_cases e : b = j
 · subst e; exact h2
 · exact h b (by omega)
theorem meet_s {v u : Value} {xs ys : List Rect} (h1 : Rs G L rectT v xs) (h2 : Rs G L rectT u ys) (k : R (.bool (meetB xs ys)) G L) : CallT Tryz.prog 165 #[v, u] G L R := by
 refine CallT.bd h1 fun hb => ?_
 refine CallT.bd h2 fun hb' => ?_
 refine CallT.enter (args := _) Tryz.func165 rfl rfl (by kernel_rfl) rfl ?_
 refine WP.seq (WP.region (RG.br rfl rfl rfl (RG.nil (WP.seq (WP.seq (WP.region (RG.pv rfl (PV.move (v := v) rfl rfl) ?_)))))))
 refine RG.pv rfl (PV.len (v := v) rfl Tryz.underlying50 rfl (SlF.r h1)) (RG.ml rfl rfl rfl (RG.nil (WP.block ?_)))
 refine WP.loop1 [1, 9, 10] (fun i => i ≤ xs.length ∧ ∀ p, p < i → ∀ q, q < ys.length → ovl (gd xs p) (gd ys q) = false) (fun i => [(11, vi i)]) (fun i => L) (fun i => xs.length - i) 0 ⟨by omega, fun p h => by omega⟩ ⟨rfl, trivial⟩ Cv.p ?_
 rintro i τ ⟨hi, hn⟩
 refine WP.seq (WP.region (RG.pv rfl (PV.lss rfl rfl rfl) (RG.nil (WP.seq ?_))))
 refine WP.cond rfl (fun h3 => ?_) (fun h3 => ?_)
 · have h3 := of_decide_eq_true h3
   refine WP.skip (WP.seq (WP.block (WP.seq (WP.region (RG.pv rfl (PV.idxS (v := v) rfl Is50 rfl (SlF.r h1) rfl rfl (by omega)) (RG.pv rfl (PV.loadE rfl Ag140 rfl rfl (El.r h1 (getG (by omega)))) ?_))))))
   refine RG.ot rfl (OT.alloc rfl Zr140 fun b6 => ?_)
   refine RG.ot rfl (OT.storeW (vs := [vi _, vi _, vi _, vi _]) rfl Sz140 rfl rfl (Cl.c rfl) rfl rfl (OneC.c rfl) ?_)
   refine RG.nil (WP.seq (WP.region (RG.pv rfl (PV.move (v := u) rfl rfl) (RG.pv rfl (PV.len (v := u) rfl Tryz.underlying50 rfl (SlF.r h2)) (RG.ml rfl rfl rfl (RG.nil (WP.block ?_)))))))
   refine WP.loop1 [1, 6, 9, 10, 11, 15, 16] (fun j => j ≤ ys.length ∧ ∀ q, q < j → ovl (gd xs i) (gd ys q) = false) (fun j => [(17, vi j)]) (fun j => blk b6 140 (rectT.enc (gd xs i)) :: L) (fun j => ys.length - j) 0 ⟨by omega, fun q h => by omega⟩ ⟨rfl, trivial⟩ Cv.p ?_
   rintro j τ1 ⟨hj, hm⟩
   refine WP.seq (WP.region (RG.pv rfl (PV.lss rfl rfl rfl) (RG.nil (WP.seq ?_))))
   refine WP.cond rfl (fun h4 => ?_) (fun h4 => ?_)
   · have h4 := of_decide_eq_true h4
     refine WP.skip (WP.seq (WP.block (WP.seq (WP.region (RG.pv rfl (PV.idxS (v := u) rfl Is50 rfl (SlF.r h2) rfl rfl (by omega)) (RG.pv rfl (PV.loadE rfl Ag140 rfl rfl (El.r h2 (getG (by omega)))) ?_))))))
     refine RG.ot rfl (OT.alloc rfl Zr140 fun b8 => ?_)
     refine RG.ot rfl (OT.storeW (vs := [vi _, vi _, vi _, vi _]) rfl Sz140 rfl rfl (Cl.c rfl) rfl rfl (OneC.c rfl) ?_)
     refine RG.nil (WP.seq (WP.region (RG.pv rfl (PV.loadW rfl Ag140 rfl rfl) (RG.pv rfl (PV.loadW rfl Ag140 rfl rfl) ?_))))
     refine RG.callF (vs := [_, _]) rfl rfl En118 rfl (ovl_s ?_)
     refine RG.nil ?_
     refine WP.cond rfl (fun h5 => ?_) (fun h5 => ?_)
     · have e : meetB xs ys = true := any2_true (i := i) (j := j) (by omega) (by omega) h5
       rw [e] at k
       refine WP.seq (WP.region (RG.br rfl rfl rfl (RG.nil ?_)))
       refine WP.ret ?_
       exact ⟨_, _, ResV.one rfl rfl, Cv.p, k⟩
     · refine WP.skip ?_
       refine WP.region (RG.pv rfl (PV.add rfl rfl rfl (by omega)) (RG.ml rfl rfl rfl (RG.nil ?_)))
       exact ⟨rfl, j + 1, ⟨by omega, col_next hm h5⟩, ⟨rfl, trivial⟩, ⟨rfl, rfl, rfl, rfl, rfl, rfl, rfl, trivial⟩, Cv.p, by omega⟩
   · have h4 := of_decide_eq_false h4
     obtain rfl : j = ys.length := by omega
     refine WP.exit ?_
     refine WP.region (RG.pv rfl (PV.add rfl rfl rfl (by omega)) (RG.ml rfl rfl rfl (RG.nil ?_)))
     exact ⟨rfl, i + 1, ⟨by omega, row_next (p := fun a b => ovl (gd xs a) (gd ys b)) hn hm⟩, ⟨rfl, trivial⟩, ⟨rfl, rfl, rfl, trivial⟩, Cv.p, by omega⟩
 · have h3 := of_decide_eq_false h3
   obtain rfl : i = xs.length := by omega
   have e : meetB xs ys = false := any2_false hn
   rw [e] at k
   refine WP.exit ?_
   refine WP.seq (WP.region (RG.br rfl rfl rfl (RG.nil ?_)))
   refine WP.ret ?_
   exact ⟨_, _, ResV.one rfl rfl, Cv.p, k⟩
theorem meetIn_s {v u w : Value} {xs ys zs : List Rect} (h1 : Rs G L rectT v xs) (h2 : Rs G L rectT u ys) (h3 : Rs G L rectT w zs) (k : R (.bool (meetIn xs ys zs)) G L) : CallT Tryz.prog 120 #[v, u, w] G L R := by
 refine CallT.bd h1 fun hb => ?_
 refine CallT.bd h2 fun hb' => ?_
 refine CallT.enter (args := _) Tryz.func120 rfl rfl (by kernel_rfl) rfl ?_
 refine WP.seq (WP.region (RG.br rfl rfl rfl (RG.nil (WP.seq (WP.seq (WP.region (RG.pv rfl (PV.move (v := v) rfl rfl) ?_)))))))
 refine RG.pv rfl (PV.len (v := v) rfl Tryz.underlying50 rfl (SlF.r h1)) (RG.ml rfl rfl rfl (RG.nil (WP.block ?_)))
 refine WP.loop1 [1, 2, 12, 13] (fun i => i ≤ xs.length ∧ ∀ p, p < i → ∀ q, q < ys.length → (validRect (cmn (gd xs p) (gd ys q)) && meetB [cmn (gd xs p) (gd ys q)] zs) = false) (fun i => [(14, vi i)]) (fun i => L) (fun i => xs.length - i) 0 ⟨by omega, fun p h => by omega⟩ ⟨rfl, trivial⟩ Cv.p ?_
 rintro i τ ⟨hi, hn⟩
 refine WP.seq (WP.region (RG.pv rfl (PV.lss rfl rfl rfl) (RG.nil (WP.seq ?_))))
 refine WP.cond rfl (fun h4 => ?_) (fun h4 => ?_)
 · have h4 := of_decide_eq_true h4
   refine WP.skip (WP.seq (WP.block (WP.seq (WP.region (RG.pv rfl (PV.idxS (v := v) rfl Is50 rfl (SlF.r h1) rfl rfl (by omega)) (RG.pv rfl (PV.loadE rfl Ag140 rfl rfl (El.r h1 (getG (by omega)))) ?_))))))
   refine RG.ot rfl (OT.alloc rfl Zr140 fun b8 => ?_)
   refine RG.ot rfl (OT.storeW (vs := [vi _, vi _, vi _, vi _]) rfl Sz140 rfl rfl (Cl.c rfl) rfl rfl (OneC.c rfl) ?_)
   refine RG.nil (WP.seq (WP.region (RG.pv rfl (PV.move (v := u) rfl rfl) (RG.pv rfl (PV.len (v := u) rfl Tryz.underlying50 rfl (SlF.r h2)) (RG.ml rfl rfl rfl (RG.nil (WP.block ?_)))))))
   refine WP.loop1 [1, 2, 8, 12, 13, 14, 18, 19] (fun j => j ≤ ys.length ∧ ∀ q, q < j → (validRect (cmn (gd xs i) (gd ys q)) && meetB [cmn (gd xs i) (gd ys q)] zs) = false) (fun j => [(20, vi j)]) (fun j => blk b8 140 (rectT.enc (gd xs i)) :: L) (fun j => ys.length - j) 0 ⟨by omega, fun q h => by omega⟩ ⟨rfl, trivial⟩ Cv.p ?_
   rintro j τ1 ⟨hj, hm⟩
   refine WP.seq (WP.region (RG.pv rfl (PV.lss rfl rfl rfl) (RG.nil (WP.seq ?_))))
   refine WP.cond rfl (fun h5 => ?_) (fun h5 => ?_)
   · have h5 := of_decide_eq_true h5
     refine WP.skip (WP.seq (WP.block (WP.seq (WP.region (RG.pv rfl (PV.idxS (v := u) rfl Is50 rfl (SlF.r h2) rfl rfl (by omega)) (RG.pv rfl (PV.loadE rfl Ag140 rfl rfl (El.r h2 (getG (by omega)))) ?_))))))
     refine RG.ot rfl (OT.alloc rfl Zr140 fun b10 => ?_)
     refine RG.ot rfl (OT.storeW (vs := [vi _, vi _, vi _, vi _]) rfl Sz140 rfl rfl (Cl.c rfl) rfl rfl (OneC.c rfl) ?_)
     refine RG.nil (WP.seq (WP.region (RG.pv rfl (PV.loadW rfl Ag140 rfl rfl) (RG.pv rfl (PV.loadW rfl Ag140 rfl rfl) ?_))))
     refine RG.callF (vs := [_, _]) rfl rfl En164 rfl (common_s ?_)
     refine RG.ot rfl (OT.alloc rfl Zr140 fun b11 => ?_)
     refine RG.ot rfl (OT.storeW (vs := [vi _, vi _, vi _, vi _]) rfl Sz140 rfl rfl (Cl.c rfl) rfl rfl (OneC.c rfl) ?_)
     refine RG.nil (WP.seq (WP.region (RG.pv rfl (PV.loadW rfl Ag140 rfl rfl) ?_)))
     refine RG.callF (vs := [_]) rfl rfl En83 rfl (validRect_s ?_)
     refine RG.bl rfl rfl rfl ?_
     refine RG.spl (t := 29) rfl (fun h6 => ?_) (fun h6 => ?_)
     · refine RG.take rfl rfl rfl h6 ?_
       refine RG.pv rfl (PV.loadW rfl Ag140 rfl rfl) ?_
       refine RG.take rfl rfl rfl h6 ?_
       refine RG.ot rfl (OT.bslice (F := rectT) (els := [_]) rfl El50 rfl (by decide) rfl (by decide) ⟨rfl, (Cl.c rfl), trivial⟩ fun v31 => ?_)
       refine RG.take rfl rfl rfl h6 ?_
       refine RG.pv rfl (PV.move (v := w) rfl rfl) ?_
       refine RG.take rfl rfl rfl h6 ?_
       refine RG.callF (vs := [v31, w]) rfl rfl En165 rfl (meet_s Rs.o (Rs.up h3) ?_)
       refine RG.pv rfl (PV.pickT rfl rfl h6 rfl) (RG.nil ?_)
       refine WP.cond rfl (fun h7 => ?_) (fun h7 => ?_)
       · have e : meetIn xs ys zs = true := any2_true (p := fun x y => validRect (cmn x y) && meetB [cmn x y] zs) (i := i) (j := j) (by omega) (by omega) (by rw [h6]; exact h7)
         rw [e] at k
         refine WP.seq (WP.region (RG.br rfl rfl rfl (RG.nil ?_)))
         refine WP.ret ?_
         exact ⟨_, _, ResV.one rfl rfl, Cv.p, k⟩
       · refine WP.skip ?_
         refine WP.region (RG.pv rfl (PV.add rfl rfl rfl (by omega)) (RG.ml rfl rfl rfl (RG.nil ?_)))
         exact ⟨rfl, j + 1, ⟨by omega, col_next hm (by rw [h6]; exact h7)⟩, ⟨rfl, trivial⟩, ⟨rfl, rfl, rfl, rfl, rfl, rfl, rfl, rfl, trivial⟩, Cv.p, by omega⟩
     · refine RG.skip rfl rfl rfl (gne h6) ?_
       refine RG.skip rfl rfl rfl (gne h6) ?_
       refine RG.skip rfl rfl rfl (gne h6) ?_
       refine RG.skip rfl rfl rfl (gne h6) ?_
       refine RG.pv rfl (PV.pickE rfl rfl h6 rfl) (RG.nil ?_)
       refine WP.cond rfl (fun h7 => ?_) (fun h7 => ?_)
       · cases h7
       · refine WP.skip ?_
         refine WP.region (RG.pv rfl (PV.add rfl rfl rfl (by omega)) (RG.ml rfl rfl rfl (RG.nil ?_)))
         exact ⟨rfl, j + 1, ⟨by omega, col_next hm (by rw [h6]; rfl)⟩, ⟨rfl, trivial⟩, ⟨rfl, rfl, rfl, rfl, rfl, rfl, rfl, rfl, trivial⟩, Cv.p, by omega⟩
   · have h5 := of_decide_eq_false h5
     obtain rfl : j = ys.length := by omega
     refine WP.exit ?_
     refine WP.region (RG.pv rfl (PV.add rfl rfl rfl (by omega)) (RG.ml rfl rfl rfl (RG.nil ?_)))
     exact ⟨rfl, i + 1, ⟨by omega, row_next (p := fun a b => validRect (cmn (gd xs a) (gd ys b)) && meetB [cmn (gd xs a) (gd ys b)] zs) hn hm⟩, ⟨rfl, trivial⟩, ⟨rfl, rfl, rfl, rfl, trivial⟩, Cv.p, by omega⟩
 · have h4 := of_decide_eq_false h4
   obtain rfl : i = xs.length := by omega
   have e : meetIn xs ys zs = false := any2_false (p := fun x y => validRect (cmn x y) && meetB [cmn x y] zs) hn
   rw [e] at k
   refine WP.exit ?_
   refine WP.seq (WP.region (RG.br rfl rfl rfl (RG.nil ?_)))
   refine WP.ret ?_
   exact ⟨_, _, ResV.one rfl rfl, Cv.p, k⟩
end Go.Proofs.YthhjapiggekjbaaGreat
namespace Go.Proofs.YthhjapiggekjbaaGreat
set_option linter.unusedVariables false
set_option linter.unusedSimpArgs false
open Go
set_option maxRecDepth 20000
set_option linter.unusedSimpArgs false
variable {G : Gh} {L : List Ch} {R : Value → Gh → List Ch → Prop}
theorem big_s {cv : Value} {bs : List UInt8} (hcode : SL G byteT cv bs) (k : R (.bool (decide (4096 < bs.length))) G L) : CallT Tryz.prog 19 #[cv] G L R := by
 have e : decide (4096 < bs.length) = decide ((4096 : Int) < (bs.length : Int)) := by rw [Bool.eq_iff_iff]; simp; omega
 rw [e] at k
 refine CallT.enter (args := _) Tryz.func19 rfl rfl (by kernel_rfl) rfl ?_
 refine WP.seq (WP.region (RG.br rfl rfl rfl (RG.nil (WP.seq (WP.region (RG.pv rfl (PV.move (v := cv) rfl rfl) (RG.pv rfl (PV.len (v := cv) rfl Tryz.underlying40 rfl (SlF.r (Rs.g (L := []) hcode))) ?_)))))))
 refine RG.pv rfl (PV.gtr rfl rfl rfl) (RG.br rfl rfl rfl (RG.nil ?_))
 refine WP.ret ?_
 exact ⟨_, _, ResV.one rfl rfl, Cv.p, k⟩
end Go.Proofs.YthhjapiggekjbaaGreat
namespace Go.Proofs.YthhjapiggekjbaaGreat
set_option linter.unusedVariables false
set_option linter.unusedSimpArgs false
def rot : Nat → Pt → Pt
  | 0, p => p
  | n + 1, p => rot n ⟨-p.y, p.x⟩
def flip (o : Int) (p : Pt) : Pt := if 4 ≤ o then ⟨p.x, -p.y⟩ else p
def turnP (o : Int) (p : Pt) : Pt := rot (o % 4).toNat (flip o p)
def InB (b : Int) (p : Pt) : Prop := -b ≤ p.x ∧ p.x ≤ b ∧ -b ≤ p.y ∧ p.y ≤ b
theorem rot_in {b : Int} : ∀ (n : Nat) {p : Pt}, InB b p → InB b (rot n p)
 | 0, _, h => h
 | n + 1, p, h => rot_in n (by obtain ⟨h1, h2, h3, h4⟩ := h; exact ⟨by simp only; omega, by simp only; omega, h1, h2⟩)
theorem flip_in {b o : Int} {p : Pt} (h : InB b p) : InB b (flip o p) := by
 unfold flip; split
 · obtain ⟨h1, h2, h3, h4⟩ := h; exact ⟨h1, h2, by simp only; omega, by simp only; omega⟩
 · exact h
theorem turnP_in {b o : Int} {p : Pt} (h : InB b p) : InB b (turnP o p) := rot_in _ (flip_in h)
def moveP (t : Trans) (p : Pt) : Pt := ⟨(turnP t.o p).x + t.x, (turnP t.o p).y + t.y⟩
def moveR (t : Trans) (r : Rect) : Rect :=
  ⟨min (moveP t ⟨r.x0, r.y0⟩).x (moveP t ⟨r.x1, r.y1⟩).x, min (moveP t ⟨r.x0, r.y0⟩).y (moveP t ⟨r.x1, r.y1⟩).y, max (moveP t ⟨r.x0, r.y0⟩).x (moveP t ⟨r.x1, r.y1⟩).x, max (moveP t ⟨r.x0, r.y0⟩).y (moveP t ⟨r.x1, r.y1⟩).y⟩
/-- at most this far out -/
def RIn (b : Int) (r : Rect) : Prop := -b ≤ r.x0 ∧ r.x0 < r.x1 ∧ r.x1 ≤ b ∧ -b ≤ r.y0 ∧ r.y0 < r.y1 ∧ r.y1 ≤ b
end Go.Proofs.YthhjapiggekjbaaGreat
