/-
  Bags of chunks; slices of slices: their readings, their ownership; steps that only regroup what is owned.
-/
import Derived.Test.YthjaopefoiploaaGreatGrid
import Derived.Test.YthjaopefoiploaaGreatRh
namespace Go.Proofs.YthjaopefoiploaaGreat
open Go
set_option linter.unusedVariables false

/-! ## regrouping -/
theorem Cv.cons {c : Ch} {L L' : List Ch} (h : Cv L L') : Cv (c :: L) (c :: L') := fun hp ⟨h1, h2, d, l1, l2, cc, s⟩ => ⟨h1, h2, d, l1, l2, cc, h h2 s⟩
/-- a chunk's saying weakened -/
theorem Cv.imp {c c' : Ch} {L : List Ch} (h : ∀ hp, c hp → c' hp) : Cv (c :: L) (c' :: L) := fun hp ⟨h1, h2, d, l1, l2, cc, s⟩ => ⟨h1, h2, d, l1, l2, h h1 cc, s⟩
theorem Cv.ex {c : Ch} {L L' : List Ch} (h : Ex c L L') : Cv L (c :: L') := fun _ s => h.sep s
def hu (a b : Hp) : Hp := fun x => if (a x).isSome then a x else b x
theorem hu_l (a b : Hp) : Hp.le a (hu a b) := fun x o h => by simp [hu, h]
theorem hu_r {a b : Hp} (d : Hp.dj a b) : Hp.le b (hu a b) := fun x o h => by
  rcases d x with e | e
  · simp [hu, e, h]
  · rw [e] at h; cases h
theorem hu_le {a b c : Hp} (h : Hp.le a c) (k : Hp.le b c) : Hp.le (hu a b) c := fun x o e => by
  unfold hu at e; split at e
  · exact h x o e
  · exact k x o e
theorem hu_dj {a b c : Hp} (h : Hp.dj a c) (k : Hp.dj b c) : Hp.dj (hu a b) c := fun x => by
  rcases h x with e | e
  · rcases k x with e' | e'
    · left; simp [hu, e, e']
    · exact .inr e'
  · exact .inr e
theorem Hp.dj_symm {a b : Hp} (h : Hp.dj a b) : Hp.dj b a := fun x => (h x).symm
theorem Hp.dj_le {a b a' : Hp} (h : Hp.dj a b) (l : Hp.le a' a) : Hp.dj a' b := fun x => by
  rcases h x with e | e
  · left
    cases h' : a' x with
    | none => rfl
    | some o => rw [l x o h'] at e; cases e
  · exact .inr e
theorem sep_app : ∀ {A B : List Ch} {hp : Hp}, Sep (A ++ B) hp → ∃ a b, Hp.dj a b ∧ Hp.le a hp ∧ Hp.le b hp ∧ Sep A a ∧ Sep B b
  | [], B, hp, h => ⟨fun _ => none, hp, fun _ => .inl rfl, (fun _ _ e => by cases e), Hp.le_refl _, trivial, h⟩
  | c :: A, B, hp, ⟨h1, h2, d, l1, l2, cc, s⟩ => by
    obtain ⟨a, b, d', m1, m2, sa, sb⟩ := sep_app s
    exact ⟨hu h1 a, b, hu_dj (Hp.dj_symm (Hp.dj_le (Hp.dj_symm d) m2)) d', hu_le l1 (Hp.le_trans m1 l2), Hp.le_trans m2 l2, ⟨h1, a, Hp.dj_symm (Hp.dj_le (Hp.dj_symm d) m1), hu_l _ _, hu_r (Hp.dj_symm (Hp.dj_le (Hp.dj_symm d) m1)), cc, sa⟩, sb⟩
theorem app_sep : ∀ {A B : List Ch} {hp a b : Hp}, Hp.dj a b → Hp.le a hp → Hp.le b hp → Sep A a → Sep B b → Sep (A ++ B) hp
  | [], B, hp, a, b, _, _, l, _, s => s.up l
  | c :: A, B, hp, a, b, d, la, lb, ⟨h1, h2, d', m1, m2, cc, sa⟩, sb =>
    ⟨h1, hu h2 b, Hp.dj_symm (hu_dj (Hp.dj_symm d') (Hp.dj_symm (Hp.dj_le d m1))), Hp.le_trans m1 la, hu_le (Hp.le_trans m2 la) lb, cc,
      app_sep (Hp.dj_le d m2) (hu_l _ _) (hu_r (Hp.dj_le d m2)) sa sb⟩
theorem Cv.swap {A B L : List Ch} : Cv (A ++ B ++ L) (B ++ A ++ L) := fun hp s => by
  obtain ⟨ab, c, d, l1, l2, sab, sc⟩ := sep_app s
  obtain ⟨a, b, d', m1, m2, sa, sb⟩ := sep_app sab
  exact app_sep d l1 l2 (app_sep (Hp.dj_symm d') m2 m1 sb sa) sc

/-! ## bags -/
def bag (B : List Ch) : Ch := Sep B
def emp : Ch := fun _ => True
theorem Cv.bagNil {L : List Ch} : Cv L (bag [] :: L) := fun hp s => ⟨fun _ => none, hp, fun _ => .inl rfl, (fun _ _ e => by cases e), Hp.le_refl _, trivial, s⟩
theorem Cv.toBag {B L : List Ch} : Cv (B ++ L) (bag B :: L) := fun hp s => sep_app s
theorem Cv.ofBag {B L : List Ch} : Cv (bag B :: L) (B ++ L) := fun hp ⟨a, b, d, l1, l2, sa, sb⟩ => app_sep d l1 l2 sa sb
theorem Cv.bagAdd {c : Ch} {B L : List Ch} : Cv (c :: bag B :: L) (bag (B ++ [c]) :: L) :=
  (Cv.cons Cv.ofBag).trans ((Cv.swap (A := [c]) (B := B)).trans Cv.toBag)
theorem Cv.bagCons {c : Ch} {B L : List Ch} : Cv (c :: bag B :: L) (bag (c :: B) :: L) :=
  (Cv.cons Cv.ofBag).trans (Cv.toBag (B := c :: B))
theorem set_split {B : List Ch} {i : Nat} {c : Ch} (h : i < B.length) : B.set i c = B.take i ++ c :: B.drop (i + 1) := List.set_eq_take_append_cons_drop (a := c) ▸ by simp [h]
theorem get_split {B : List Ch} {i : Nat} {c : Ch} (h : B[i]? = some c) : B = B.take i ++ c :: B.drop (i + 1) := by
  obtain ⟨hi, rfl⟩ := List.getElem?_eq_some_iff.1 h
  rw [← List.drop_eq_getElem_cons hi, List.take_append_drop]
theorem Cv.bagTake {B L : List Ch} {c : Ch} (i : Nat) (h : B[i]? = some c) : Cv (bag B :: L) (c :: bag (B.set i emp) :: L) := by
  have hi := (List.getElem?_eq_some_iff.1 h).1
  intro hp ⟨a, b, d, l1, l2, sa, sb⟩
  have e := get_split h
  rw [set_split hi]
  have sa : Sep B a := sa
  rw [e] at sa
  obtain ⟨x, y, d', m1, m2, sx, sy⟩ := sep_app sa
  obtain ⟨h1, h2, d2, n1, n2, cc, s2⟩ := sy
  refine ⟨h1, hu (hu x h2) b, ?_, Hp.le_trans n1 (Hp.le_trans m2 l1), hu_le (hu_le (Hp.le_trans m1 l1) (Hp.le_trans n2 (Hp.le_trans m2 l1))) l2, cc, hu x h2, b, ?_, hu_l _ _, hu_r ?_, ?_, sb⟩
  · exact Hp.dj_symm (hu_dj (hu_dj (Hp.dj_symm (Hp.dj_le (Hp.dj_symm d') n1)) (Hp.dj_symm d2)) (Hp.dj_symm (Hp.dj_le d (Hp.le_trans n1 m2))))
  · exact hu_dj (Hp.dj_le d m1) (Hp.dj_le d (Hp.le_trans n2 m2))
  · exact hu_dj (Hp.dj_le d m1) (Hp.dj_le d (Hp.le_trans n2 m2))
  · have dx : Hp.dj x h2 := Hp.dj_symm (Hp.dj_le (Hp.dj_symm d') n2)
    refine app_sep dx (hu_l _ _) (hu_r dx) sx ?_
    exact ⟨fun _ => none, h2, fun _ => .inl rfl, (fun _ _ e => by cases e), Hp.le_refl _, trivial, s2⟩
theorem Cv.bagPut {B L : List Ch} {c : Ch} (i : Nat) (hi : i < B.length) : Cv (c :: bag B :: L) (bag (B.set i c) :: L) := by
  intro hp ⟨h1, h2, d, l1, l2, cc, a, b, d', m1, m2, sa, sb⟩
  have e := get_split (List.getElem?_eq_getElem hi)
  have sa : Sep B a := sa
  rw [e] at sa
  obtain ⟨x, y, d2, n1, n2, sx, y1, y2, d3, o1, o2, _, sy⟩ := sep_app sa
  refine ⟨hu h1 (hu x y2), b, ?_, hu_le l1 (hu_le (Hp.le_trans n1 (Hp.le_trans m1 l2)) (Hp.le_trans o2 (Hp.le_trans n2 (Hp.le_trans m1 l2)))), Hp.le_trans m2 l2, ?_, sb⟩
  · exact hu_dj (Hp.dj_symm (Hp.dj_le (Hp.dj_symm d) m2)) (hu_dj (Hp.dj_le d' n1) (Hp.dj_le d' (Hp.le_trans o2 n2)))
  · show Sep _ _
    rw [set_split hi]
    have dxy : Hp.dj x y2 := Hp.dj_symm (Hp.dj_le (Hp.dj_symm d2) o2)
    have d1x : Hp.dj h1 x := Hp.dj_symm (Hp.dj_le (Hp.dj_symm d) (Hp.le_trans n1 m1))
    have d1y : Hp.dj h1 y2 := Hp.dj_symm (Hp.dj_le (Hp.dj_symm d) (Hp.le_trans o2 (Hp.le_trans n2 m1)))
    refine app_sep (a := x) (b := hu h1 y2) ?_ ?_ ?_ sx ⟨h1, y2, d1y, hu_l _ _, hu_r d1y, cc, sy⟩
    · exact Hp.dj_symm (hu_dj d1x (Hp.dj_symm dxy))
    · exact Hp.le_trans (hu_l x y2) (hu_r (Hp.dj_symm (hu_dj (Hp.dj_symm d1x) (Hp.dj_symm d1y))))
    · exact hu_le (hu_l _ _) (Hp.le_trans (hu_r dxy) (hu_r (Hp.dj_symm (hu_dj (Hp.dj_symm d1x) (Hp.dj_symm d1y)))))

section
variable {P : Program} {n : Nat} {Q : Post} {σ : Nat → Value} {G : Gh} {L L' : List Ch} {ops : Array Oper} {rest : List Oper}
theorem WP.cv {c : Code} (h : Cv L L') (k : WP P n c Q σ G L') : WP P n c Q σ G L := WP.of fun hk _ _ ha hs => k.run hk ha (hs.cv h)
theorem RG.cv (h : Cv L L') (k : RG P n ops rest Q σ G L') : RG P n ops rest Q σ G L := RG.of fun hk _ _ ha hs => k.run hk ha (hs.cv h)
theorem CallT.cv {f : FuncId} {args : Array Value} {R : Value → Gh → List Ch → Prop} (h : Cv L L') (k : CallT P f args G L' R) : CallT P f args G L R := CallT.of fun _ hs => k.run (hs.cv h)
theorem CallT.exC {f : FuncId} {args : Array Value} {R : Value → Gh → List Ch → Prop} (c : Ch) [hX : ExC c L L'] (k : CallT P f args G (c :: L') R) : CallT P f args G L R := CallT.cv (Cv.ex hX.ex) k
theorem WP.exC {c0 : Code} (c : Ch) [hX : ExC c L L'] (k : WP P n c0 Q σ G (c :: L')) : WP P n c0 Q σ G L := WP.cv (Cv.ex hX.ex) k
theorem Rs.cv {α : Type} {T : FT α} {v : Value} {xs : List α} (c : Cv L L') (h : Rs G L' T v xs) : Rs G L T v xs := fun w hs => h w (hs.cv c)
end

/-- the nil slice is owned by whoever wants it -/
theorem Cv.nilS {α : Type} {e : TypeId} {F : FT α} {L : List Ch} : Cv L (osl e F (.slice none 0 0) [] :: L) := fun hp s => ⟨fun _ => none, hp, fun _ => .inl rfl, (fun _ _ e => by cases e), Hp.le_refl _, .inl ⟨rfl, rfl⟩, s⟩

theorem Cv.nilP {α : Type} {e : TypeId} {F : FT α} {C L : List Ch} [p : PickC C L] : Cv L (osl e F (.slice none 0 0) [] :: C) := (Cv.pick p.pick).trans Cv.nilS

/-! ## slices of slices -/
/-- each element's slice reads as its list -/
def RsE {α : Type} (G : Gh) (L : List Ch) (F : FT α) (xs : List (Sl α)) : Prop := ∀ i, i < xs.length → Rs G L F (gd xs i).v (gd xs i).xs
theorem RsE.up {α : Type} {G : Gh} {L L' : List Ch} {F : FT α} {xs : List (Sl α)} (h : RsE G L F xs) [p : PickC L L'] : RsE G L' F xs := fun i hi => (h i hi).up
theorem RsE.cv {α : Type} {G : Gh} {L L' : List Ch} {F : FT α} {xs : List (Sl α)} (c : Cv L L') (h : RsE G L' F xs) : RsE G L F xs := fun i hi => (h i hi).cv c
/-- the lists themselves -/
def er {α : Type} (xs : List (Sl α)) : List (List α) := xs.map Sl.xs
theorem er_len {α : Type} (xs : List (Sl α)) : (er xs).length = xs.length := by simp [er]
theorem er_gd {α : Type} (xs : List (Sl α)) (i : Nat) : gd (er xs) i = (gd xs i).xs := by
  simp only [gd, er, List.getElem?_map]
  cases xs[i]? <;> rfl
theorem er_get {α : Type} {xs ys : List (Sl α)} (h : er xs = er ys) (i : Nat) : (gd xs i).xs = (gd ys i).xs := by rw [← er_gd, ← er_gd, h]
theorem er_length {α : Type} {xs ys : List (Sl α)} (h : er xs = er ys) : xs.length = ys.length := by rw [← er_len, ← er_len, h]
theorem er_of {α : Type} {xs ys : List (Sl α)} (hl : xs.length = ys.length) (h : ∀ i, i < ys.length → (gd xs i).xs = (gd ys i).xs) : er xs = er ys := by
  apply List.ext_getElem?
  intro i
  by_cases hi : i < ys.length
  · have := h i hi
    rw [gd_eq (by omega), gd_eq hi] at this
    simp [er, hi, show i < xs.length by omega, this]
  · rw [List.getElem?_eq_none (by rw [er_len]; omega), List.getElem?_eq_none (by rw [er_len]; omega)]
theorem OneL.sl {α : Type} {G : Gh} {L : List Ch} {F : FT α} {xs : List (Sl α)} (h : RsE G L F xs) : OneL G L slT xs := fun w hs a ha => by
  obtain ⟨i, hi, rfl⟩ := List.getElem_of_mem ha
  have := (h i hi w hs).1.one
  rw [gd_eq hi] at this
  simp [slT, allOne, this]
def ownS {α : Type} (e : TypeId) (F : FT α) (s : Sl α) : Ch := osl e F s.v s.xs
/-- the elements' slices are owned -/
abbrev bagS {α : Type} (e : TypeId) (F : FT α) (xs : List (Sl α)) : Ch := bag (xs.map (ownS e F))
theorem map_get {α β : Type} [Inhabited α] {f : α → β} {xs : List α} {i : Nat} (h : i < xs.length) : (xs.map f)[i]? = some (f (gd xs i)) := by simp [gd, h]
class ExBg {α : Type} (xs : List (Sl α)) (L : List Ch) (e : outParam TypeId) (F : outParam (FT α)) (L' : outParam (List Ch)) : Prop where
  ex : Ex (bagS e F xs) L L'
instance (priority := low) {α : Type} (xs : List (Sl α)) (x : Ch) (L : List Ch) (e : TypeId) (F : FT α) (L' : List Ch) [h : ExBg xs L e F L'] : ExBg xs (x :: L) e F (x :: L') := ⟨.tail x h.ex⟩
instance {α : Type} (xs : List (Sl α)) (L : List Ch) (e : TypeId) (F : FT α) : ExBg xs (bagS e F xs :: L) e F L := ⟨.head _ L⟩
theorem Rs.inBag {α : Type} {G : Gh} {L L' : List Ch} {e : TypeId} {F : FT α} {xs : List (Sl α)} (i : Nat) (hi : i < xs.length) [hX : ExBg xs L e F L'] : Rs G L F (gd xs i).v (gd xs i).xs :=
  Rs.cv (L' := osl e F (gd xs i).v (gd xs i).xs :: bag ((xs.map (ownS e F)).set i emp) :: L') ((Cv.ex hX.ex).trans (Cv.bagTake i (map_get hi))) Rs.o
theorem RsE.o {α : Type} {G : Gh} {L L' : List Ch} {e : TypeId} {F : FT α} {xs : List (Sl α)} [hX : ExBg xs L e F L'] : RsE G L F xs := fun i hi => Rs.inBag (L := L) (L' := L') (e := e) (F := F) (xs := xs) i hi
theorem CallT.exBg {α : Type} {P : Program} {f : FuncId} {args : Array Value} {G : Gh} {L L' : List Ch} {R : Value → Gh → List Ch → Prop} {e : TypeId} {F : FT α} (xs : List (Sl α)) [hX : ExBg xs L e F L'] (k : CallT P f args G (bagS e F xs :: L') R) : CallT P f args G L R := CallT.cv (Cv.ex hX.ex) k
theorem slT_flat {α : Type} (xs : List (Sl α)) : slT.flat xs = xs.map Sl.v := by
  simp only [FT.flat, slT]
  induction xs with
  | nil => rfl
  | cons x xs ih => simp [ih]
/-- the lists behind the headers do not matter for the row of headers -/
theorem Cv.heads {α β : Type} {e : TypeId} {v : Value} {xs : List (Sl α)} {ys : List (Sl β)} {L : List Ch} (h : ys.map Sl.v = xs.map Sl.v) : Cv (osl e slT v xs :: L) (osl e slT v ys :: L) :=
  Cv.imp fun hp hc => by
    have hl : ys.length = xs.length := by simpa using congrArg List.length h
    rcases hc with ⟨rfl, rfl⟩ | ⟨b, cap, c, h1, h2, h3, h4, h5, h6⟩
    · exact .inl ⟨rfl, List.eq_nil_of_length_eq_zero (by simpa using hl)⟩
    · refine .inr ⟨b, cap, c, by rw [hl]; exact h1, h2, by rw [hl]; exact h3, h4, h5, ?_⟩
      rw [hl, slT_flat, h, ← slT_flat]; exact h6
/-- the i-th slice is taken out of the bag and put back, changed -/
theorem Cv.bagS_take {α : Type} {e : TypeId} {F : FT α} {xs : List (Sl α)} {L : List Ch} (i : Nat) (hi : i < xs.length) : Cv (bagS e F xs :: L) (osl e F (gd xs i).v (gd xs i).xs :: bag ((xs.map (ownS e F)).set i emp) :: L) :=
  Cv.bagTake i (map_get hi)
theorem Cv.bagS_put {α : Type} {e : TypeId} {F : FT α} {xs : List (Sl α)} {v : Value} {ys : List α} {L : List Ch} (i : Nat) (hi : i < xs.length) : Cv (osl e F v ys :: bag ((xs.map (ownS e F)).set i emp) :: L) (bagS e F (xs.set i ⟨v, ys⟩) :: L) := by
  have h := Cv.bagPut (B := (xs.map (ownS e F)).set i emp) (L := L) (c := osl e F v ys) i (by simpa using hi)
  rw [List.set_set] at h
  have e1 : (xs.map (ownS e F)).set i (osl e F v ys) = (xs.set i ⟨v, ys⟩).map (ownS e F) := by rw [List.map_set]; rfl
  rw [e1] at h; exact h
theorem Cv.bagS_add {α : Type} {e : TypeId} {F : FT α} {xs : List (Sl α)} {v : Value} {ys : List α} {L : List Ch} : Cv (osl e F v ys :: bagS e F xs :: L) (bagS e F (xs ++ [⟨v, ys⟩]) :: L) := by
  have h := Cv.bagAdd (c := osl e F v ys) (B := xs.map (ownS e F)) (L := L)
  have e1 : xs.map (ownS e F) ++ [osl e F v ys] = (xs ++ [(⟨v, ys⟩ : Sl α)]).map (ownS e F) := by simp [ownS]
  rw [e1] at h; exact h
/-- the i-th slice, out of the bag and written, goes back -/
theorem Cv.slot {α : Type} {e e' : TypeId} {F : FT α} {v : Value} {zs : List (Sl α)} {ys : List α} {L : List Ch} (i : Nat) (hi : i < zs.length) :
    Cv (osl e F (gd zs i).v ys :: osl e' slT v zs :: bag ((zs.map (ownS e F)).set i emp) :: L) (osl e' slT v (zs.set i ⟨(gd zs i).v, ys⟩) :: bagS e F (zs.set i ⟨(gd zs i).v, ys⟩) :: L) := by
  have h1 : Cv (osl e F (gd zs i).v ys :: osl e' slT v zs :: bag ((zs.map (ownS e F)).set i emp) :: L) (osl e' slT v zs :: osl e F (gd zs i).v ys :: bag ((zs.map (ownS e F)).set i emp) :: L) := Cv.swap (A := [osl e F (gd zs i).v ys]) (B := [osl e' slT v zs])
  refine h1.trans ((Cv.cons (Cv.bagS_put i hi)).trans (Cv.heads ?_))
  rw [List.map_set]
  apply List.ext_getElem?
  intro j
  rw [List.getElem?_set]
  split
  · rename_i e
    subst e
    simp [gd_eq hi, hi]
  · rfl
/-- an element of an owned slice of slices is set to a new owned slice -/
theorem Cv.slotNew {α : Type} {e e' : TypeId} {F : FT α} {v u : Value} {zs : List (Sl α)} {ys : List α} {L : List Ch} :
    Cv (osl e F u ys :: osl e' slT v (zs ++ [⟨u, ys⟩]) :: bagS e F zs :: L) (osl e' slT v (zs ++ [⟨u, ys⟩]) :: bagS e F (zs ++ [⟨u, ys⟩]) :: L) := by
  have h1 : Cv (osl e F u ys :: osl e' slT v (zs ++ [⟨u, ys⟩]) :: bagS e F zs :: L) (osl e' slT v (zs ++ [⟨u, ys⟩]) :: osl e F u ys :: bagS e F zs :: L) := Cv.swap (A := [osl e F u ys]) (B := [osl e' slT v (zs ++ [⟨u, ys⟩])])
  exact h1.trans (Cv.cons Cv.bagS_add)

theorem Cv.eqS {α : Type} {e : TypeId} {F : FT α} {v : Value} {xs ys : List α} {L : List Ch} (h : xs = ys) : Cv (osl e F v xs :: L) (osl e F v ys :: L) := by subst h; exact Cv.refl _
theorem Cv.eq2 {α : Type} {e e' : TypeId} {F : FT α} {v : Value} {xs ys : List (Sl α)} {L : List Ch} (h : xs = ys) : Cv (osl e' slT v xs :: bagS e F xs :: L) (osl e' slT v ys :: bagS e F ys :: L) := by subst h; exact Cv.refl _
theorem Cv.bag0 {α : Type} {e : TypeId} {F : FT α} {xs : List (Sl α)} {L : List Ch} (h : xs = []) : Cv L (bagS e F xs :: L) := by subst h; exact Cv.bagNil
theorem Cv.grow {α : Type} {e : TypeId} {F : FT α} {u : Value} {us : List α} {ys ys' : List (Sl α)} {L : List Ch} (h : ys' = ys ++ [⟨u, us⟩]) : Cv (osl e F u us :: bagS e F ys :: L) (bagS e F ys' :: L) := by subst h; exact Cv.bagS_add
theorem take_set_succ {α : Type} {xs : List α} {i : Nat} {a : α} (h : i < xs.length) : (xs.set i a).take (i + 1) = xs.take i ++ [a] := by
  rw [List.take_add_one, List.getElem?_set_self h, List.take_set, List.set_eq_of_length_le (by simp; omega)]; rfl

/-! ## a field of an element of an owned slice -/
theorem splice_splice (cs vs us : List Value) (k j : Nat) (h : j + us.length ≤ vs.length) (hk : k + vs.length ≤ cs.length) (hv : ∀ i, i < vs.length → cs[k + i]? = vs[i]?) : splice cs k (splice vs j us) = splice cs (k + j) us := by
  apply List.ext_getElem?
  intro i
  rw [splice_get (splice vs j us) cs k i (by rw [splice_length]; omega), splice_get us cs (k + j) i (by omega), splice_length]
  by_cases h1 : k ≤ i ∧ i < k + vs.length
  · rw [if_pos h1, splice_get us vs j (i - k) h]
    by_cases h2 : j ≤ i - k ∧ i - k < j + us.length
    · rw [if_pos h2, if_pos (by omega)]; congr 1; omega
    · rw [if_neg h2, if_neg (by omega), ← hv (i - k) (by omega)]; congr 1; omega
  · rw [if_neg h1, if_neg (by omega)]
theorem flat_at {α : Type} [Inhabited α] (F : FT α) {xs : List α} {i : Nat} (hi : i < xs.length) : ∀ j, j < (F.enc (gd xs i)).length → (F.flat xs)[i * F.sz + j]? = (F.enc (gd xs i))[j]? := fun j hj => by
  have hc : (F.enc (gd xs i))[j]? = some (F.enc (gd xs i))[j] := List.getElem?_eq_getElem hj
  rw [F.flat_get (getG hi) hc, hc]
theorem set_self {α : Type} [Inhabited α] {xs : List α} {i : Nat} (hi : i < xs.length) : xs = xs.set i (gd xs i) := by
  rw [gd_eq hi, List.set_getElem_self]
section
variable {P : Program} {n : Nat} {σ : Nat → Value} {G : Gh} {L : List Ch} {o : Oper} {t : TypeId} {x y : Operand} {v : Value} {K : (Nat → Value) → Gh → List Ch → Prop}
theorem OT.storeF {α β : Type} [Inhabited α] {F : FT α} {e : TypeId} {xs ys : List α} {a : α} {val : β → Value} {cv : β → List Value} {u : β} {st : β → α → α} {s m i j : Nat} {sl : Value} {L' : List Ch} (ho : o.op = .store t x y) (hS : ∀ w, (sizeOf t).run P w = .ok m w) (hx : ev σ x = .pointer (some ⟨sb sl, so sl + i * s + j, none⟩)) (hs0 : s = F.sz) (hy : ev σ y = val u)
    (hv' : Cl G L (val u) (cv u)) (hl : (cv u).length = m) (h1' : OneC G L (cv u)) [hX : ExS sl L α e F xs L'] (hxs : xs = ys.set i a) (hi : i < ys.length) (hj : Nat.ble (j + m) F.sz = true) (he : ∀ u a, splice (F.enc a) j (cv u) = F.enc (st u a)) (K1 : K (updo σ o.dst undef) G (osl e F sl (ys.set i (st u a)) :: L')) : OT P n o σ G L K := by
  generalize hvs : cv u = vs at hl h1' hv'
  generalize hvu : val u = v at hy hv'
  have hj := Nat.le_of_ble_eq_true hj
  subst hs0 hl
  have hlen : xs.length = ys.length := by rw [hxs]; simp
  have hga : gd xs i = a := by rw [hxs, gd_eq (by simpa using hi)]; simp
  have hle : i * F.sz + F.sz ≤ xs.length * F.sz := by
    have := Nat.mul_le_mul_right F.sz (show i + 1 ≤ xs.length by omega); rwa [Nat.add_mul, Nat.one_mul] at this
  refine OT.ofRunU fun w hs => ?_
  have h1 := allOne_all (h1' w hs)
  have hv := hv' w hs
  have hb : ∃ b cap c, sl = .slice (some ⟨b, 0, none⟩) xs.length cap ∧ wh w b = some (.cells c e (0, 0)) ∧ xs.length ≤ cap ∧ cap ≤ maxLen ∧ c.size = cap * F.sz ∧ c.toList.take (xs.length * F.sz) = F.flat xs := by
    obtain ⟨hp, s, l1, l2, d⟩ := hs
    obtain ⟨g1, g2, _, m1, _, cc, _⟩ := hX.ex.sep s
    rcases cc with ⟨_, h⟩ | ⟨b, cap, c, h1, h2, h3⟩
    · simp [h] at hlen; omega
    · exact ⟨b, cap, c, h1, l2 _ _ (m1 _ _ h2), h3⟩
  obtain ⟨b, cap, c, rfl, hb, h3, h4, h5, h6⟩ := hb
  simp only [sb, so, Nat.zero_add] at hx
  have hsz : v.cells.size = vs.length := by rw [← hv]; simp
  have hcap : xs.length * F.sz ≤ c.size := by rw [h5]; exact Nat.mul_le_mul_right _ h3
  obtain ⟨w', hr, hq, hw'⟩ := storeCells_run (P := P) vs b (i * F.sz + j) 0 c e w h1 hb (by omega)
  have hrun : (storeVar t ⟨b, i * F.sz + j, none⟩ v).run P w = .ok () w' := by
    simp [storeVar, hS w, hsz, hv, hr]
  refine ⟨G, _, w', ?_, hs.set hq hX.ex (b := b) (fun h hh => ?_) hw' (c' := osl e F (.slice (some ⟨b, 0, none⟩) xs.length cap) (ys.set i (st u a))) (fun h hh _ => ?_), K1⟩
  · simp [execOp, ho, hx, hy, Instr.storeAt, Instr.sureAddr, hrun]
  · rcases hh with ⟨_, h⟩ | ⟨b', cap', c', h1, h2, _⟩
    · simp [h] at hlen; omega
    · simp only [Value.slice.injEq, Option.some.injEq, Addr.mk.injEq] at h1
      obtain ⟨⟨rfl, _⟩, _⟩ := h1
      simp [h2]
  · refine .inr ⟨b, cap, (splice c.toList (i * F.sz + j + 0) vs).toArray, by simp [hlen], by simp, by simp; omega, h4, by simp [splice_length, h5], ?_⟩
    have e1 : F.flat (ys.set i (st u a)) = splice (F.flat xs) (i * F.sz) (F.enc (st u a)) := by
      rw [← flat_set F xs i (st u a) (by omega), hxs, List.set_set]
    rw [List.length_set, Nat.add_zero, ← hlen, e1, ← he, hvs, ← hga, splice_splice _ _ _ _ _ (by rw [F.len]; exact hj) (by rw [F.len, F.flat_len]; exact hle) (fun k hk => flat_at F (by omega) k hk), ← h6]
    exact splice_take _ _ _ _ (by omega) (by simpa using hcap)
end

/-! ## lists marked by running numbers -/
def costL {α : Type} (n : α → Int) : List α → Int
  | [] => 0
  | a :: l => n a + costL n l
def markL {α : Type} (mk : α → Int → α) (n : α → Int) : List α → Int → List α
  | [], _ => []
  | a :: l, k => mk a k :: markL mk n l (k + n a)
theorem markL_len {α : Type} (mk : α → Int → α) (n : α → Int) : ∀ (xs : List α) (k : Int), (markL mk n xs k).length = xs.length
  | [], _ => rfl
  | a :: l, k => by simp [markL, markL_len mk n l]
theorem costL_append {α : Type} (n : α → Int) : ∀ (xs ys : List α), costL n (xs ++ ys) = costL n xs + costL n ys
  | [], ys => by simp [costL]
  | x :: xs, ys => by simp only [List.cons_append, costL, costL_append n xs ys]; omega
theorem costL_take {α : Type} [Inhabited α] (n : α → Int) {xs : List α} {i : Nat} (h : i < xs.length) : costL n (xs.take (i + 1)) = costL n (xs.take i) + n (gd xs i) := by
  rw [List.take_add_one, getG h, costL_append]; simp [costL]
theorem costL_nonneg {α : Type} {n : α → Int} (hn : ∀ a, 0 ≤ n a) : ∀ xs : List α, 0 ≤ costL n xs
  | [] => Int.le_refl _
  | x :: xs => by have := costL_nonneg hn xs; have := hn x; simp only [costL]; omega
theorem costL_le {α : Type} {n : α → Int} (hn : ∀ a, 0 ≤ n a) (xs : List α) (i : Nat) : costL n (xs.take i) ≤ costL n xs := by
  have h := costL_append n (xs.take i) (xs.drop i)
  rw [List.take_append_drop] at h
  have := costL_nonneg hn (xs.drop i); omega
theorem costL_const {α : Type} (c : Int) : ∀ xs : List α, costL (fun _ => c) xs = c * xs.length
  | [] => by simp [costL]
  | x :: xs => by simp only [costL, costL_const c xs, List.length_cons]; rw [Int.natCast_succ, Int.mul_add]; omega
theorem markL_get {α : Type} [Inhabited α] (mk : α → Int → α) (n : α → Int) : ∀ (xs : List α) (k : Int) (i : Nat), i < xs.length → (markL mk n xs k)[i]? = some (mk (gd xs i) (k + costL n (xs.take i)))
  | [], _, _, h => by simp at h
  | a :: l, k, 0, _ => by simp [markL, costL, gd]
  | a :: l, k, i + 1, h => by
    have := markL_get mk n l (k + n a) i (by simpa using h)
    simp only [markL, List.getElem?_cons_succ, this, List.take_succ_cons, costL]
    have e : gd (a :: l) (i + 1) = gd l i := by simp [gd]
    rw [e, Int.add_assoc]
theorem gd_mark {α : Type} [Inhabited α] {mk : α → Int → α} {n : α → Int} {xs : List α} {k : Int} {i : Nat} (h : i < xs.length) : gd (markL mk n xs k) i = mk (gd xs i) (k + costL n (xs.take i)) := by
  have h1 := markL_get mk n xs k i h
  have h2 := getG (xs := markL mk n xs k) (i := i) (by rw [markL_len]; exact h)
  rw [h1] at h2; exact (Option.some.inj h2).symm
/-- the first i marked, the others as they were -/
def markTo {α : Type} (mk : α → Int → α) (n : α → Int) (xs : List α) (k : Int) (i : Nat) : List α := (markL mk n xs k).take i ++ xs.drop i
theorem markTo_len {α : Type} {mk : α → Int → α} {n : α → Int} {xs : List α} {k : Int} {i : Nat} (h : i ≤ xs.length) : (markTo mk n xs k i).length = xs.length := by
  simp [markTo, markL_len]; omega
theorem markTo_zero {α : Type} {mk : α → Int → α} {n : α → Int} {xs : List α} {k : Int} : markTo mk n xs k 0 = xs := by simp [markTo]
theorem markTo_all {α : Type} {mk : α → Int → α} {n : α → Int} {xs : List α} {k : Int} {i : Nat} (h : xs.length ≤ i) : markTo mk n xs k i = markL mk n xs k := by
  rw [markTo, List.take_of_length_le (by rw [markL_len]; exact h), List.drop_eq_nil_of_le h, List.append_nil]
theorem markTo_gd {α : Type} [Inhabited α] {mk : α → Int → α} {n : α → Int} {xs : List α} {k : Int} {i : Nat} (h : i < xs.length) : gd (markTo mk n xs k i) i = gd xs i := by
  simp only [gd, markTo]
  rw [List.getElem?_append_right (by simp [markL_len]; omega)]
  simp only [List.length_take, markL_len, List.getElem?_drop]
  congr 2; omega
theorem markTo_set {α : Type} [Inhabited α] {mk : α → Int → α} {n : α → Int} {xs : List α} {k : Int} {i : Nat} (h : i < xs.length) : (markTo mk n xs k i).set i (mk (gd xs i) (k + costL n (xs.take i))) = markTo mk n xs k (i + 1) := by
  apply List.ext_getElem?
  intro j
  rw [List.getElem?_set, markTo_len (by omega)]
  by_cases e : i = j
  · subst e
    rw [if_pos rfl, if_pos h, markTo, List.getElem?_append_left (by simp [markL_len]; omega), List.getElem?_take, if_pos (by omega), markL_get mk n xs k i h]
  · rw [if_neg e]
    simp only [markTo]
    by_cases c : j < i
    · rw [List.getElem?_append_left (by simp [markL_len]; omega), List.getElem?_append_left (by simp [markL_len]; omega), List.getElem?_take, List.getElem?_take, if_pos c, if_pos (by omega)]
    · rw [List.getElem?_append_right (by simp [markL_len]; omega), List.getElem?_append_right (by simp [markL_len]; omega)]
      simp only [List.length_take, markL_len, List.getElem?_drop]
      congr 1; omega
end Go.Proofs.YthjaopefoiploaaGreat
