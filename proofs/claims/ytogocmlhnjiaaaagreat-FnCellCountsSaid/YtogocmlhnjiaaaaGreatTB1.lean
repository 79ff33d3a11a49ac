/-
  Contracts of functions and plain facts that the last text of this folder uses, part 1.
-/
import Derived.WalkKit
import Derived.Deep.Quiet
import Derived.Deep.LoopGhost
import Derived.Maps.AppendAt
import Derived.Laws.AppendOwnNone
import Derived.Test.YtogocmlhnjiaaaaGreatChecked
import Derived.Laws.StructEq
import Derived.OrdersHeld
set_option linter.unusedVariables false
set_option linter.unusedSimpArgs false
namespace Go.Proofs.YtogocmlhnjiaaaaGreat
theorem odt {p : Prop} [Decidable p] (h : decide p = true) : p := of_decide_eq_true h
theorem odf {p : Prop} [Decidable p] (h : decide p = false) : ¬ p := of_decide_eq_false h
open Go
abbrev Hp := Nat -> Option Obj
def Hp.le (G H : Hp) : Prop := ∀ b o, G b = some o -> H b = some o
theorem Hp.le_refl (G : Hp) : Hp.le G G := fun _ _ h => h
theorem Hp.le_trans {G H K : Hp} (h : Hp.le G H) (k : Hp.le H K) : Hp.le G K := fun b o e => k b o (h b o e)
def Hp.dj (G H : Hp) : Prop := ∀ b, G b = none ∨ H b = none
def wh (w : World) : Hp := fun b => w.heap[b]?
abbrev Ch := Hp -> Prop
def Sep : List Ch -> Hp -> Prop
  | [], _ => True
  | c :: L, h => ∃ h1 h2, Hp.dj h1 h2 ∧ Hp.le h1 h ∧ Hp.le h2 h ∧ c h1 ∧ Sep L h2
structure Gh where
  f : Hp
  os : Os
  tape : Nat -> Question -> Nat
  out : Array (Nat × ByteArray)
  dr : Nat
instance : Coe Gh Hp := ⟨Gh.f⟩
def Gh.ok (G : Gh) (w : World) : Prop := w.os = G.os ∧ w.tape = G.tape ∧ w.output = G.out ∧ G.dr <= w.drawn
def Gh.le (G G' : Gh) : Prop := Hp.le G.f G'.f ∧ G.os = G'.os ∧ G.tape = G'.tape ∧ G.out = G'.out ∧ G.dr <= G'.dr
theorem Gh.le_refl (G : Gh) : Gh.le G G := ⟨Hp.le_refl _, rfl, rfl, rfl, Nat.le_refl _⟩
theorem Gh.le_ok {G G' : Gh} (h : Gh.le G G') {w : World} (k : Gh.ok G' w) : Gh.ok G w := ⟨k.1.trans h.2.1.symm, k.2.1.trans h.2.2.1.symm, k.2.2.1.trans h.2.2.2.1.symm, Nat.le_trans h.2.2.2.2 k.2.2.2⟩
def Quiet (w w' : World) : Prop := w'.os = w.os ∧ w'.tape = w.tape ∧ w'.output = w.output ∧ w.drawn <= w'.drawn
theorem Gh.ok_of {G : Gh} {w w' : World} (h : Gh.ok G w) (q : Quiet w w') : Gh.ok G w' := ⟨q.1.trans h.1, q.2.1.trans h.2.1, q.2.2.1.trans h.2.2.1, Nat.le_trans h.2.2.2 q.2.2.2⟩
def St (G : Gh) (L : List Ch) (w : World) : Prop :=
  ∃ h, Sep L h ∧ Hp.le G (wh w) ∧ Hp.le h (wh w) ∧ Hp.dj h G ∧ Gh.ok G w
theorem St.dr1 {G : Gh} {L : List Ch} {w : World} (h : St G L w) : St G L { w with drawn := w.drawn + 1 } :=
 let ⟨hp, s, l1, l2, d, o1, o2, o3, o4⟩ := h; ⟨hp, s, l1, l2, d, o1, o2, o3, Nat.le_succ_of_le o4⟩
theorem Sep.up : ∀ {L : List Ch} {h h' : Hp}, Sep L h -> Hp.le h h' -> Sep L h'
 | [], _, _, _, _ => trivial
 | _ :: _, _, _, ⟨h1, h2, d, l1, l2, c, s⟩, le => ⟨h1, h2, d, Hp.le_trans l1 le, Hp.le_trans l2 le, c, s⟩
inductive Ex : Ch -> List Ch -> List Ch -> Prop
  | head (c : Ch) (L : List Ch) : Ex c (c :: L) L
  | tail {c : Ch} {L L' : List Ch} (x : Ch) : Ex c L L' -> Ex c (x :: L) (x :: L')
theorem Ex.sep {c : Ch} {L L' : List Ch} (h : Ex c L L') : ∀ {hp : Hp}, Sep L hp -> Sep (c :: L') hp := by
 induction h with
 | head => exact fun h => h
 | tail x hx ih =>
  rintro hp ⟨h1, h2, d, l1, l2, cx, s⟩
  obtain ⟨k1, k2, e, m1, m2, cc, s'⟩ := ih s
  refine ⟨k1, fun b => if (k1 b).isSome then none else hp b, ?_, Hp.le_trans m1 l2, ?_, cc, h1, k2, ?_, ?_, ?_, cx, s'⟩
  ·intro b; by_cases hb : (k1 b).isSome <;> simp_all
  ·intro b o h; by_cases hb : (k1 b).isSome <;> simp_all
  ·intro b; rcases d b with h | h
   ·exact .inl h
   ·right
    cases hk : k2 b with
    | none => rfl
    | some o => have := m2 b o hk; simp [this] at h
  ·intro b o h
   have hn : k1 b = none := by
    cases hk : k1 b with
    | none => rfl
    | some o' => have := m1 b o' hk; rcases d b with h' | h' <;> simp_all
   simp only [hn]; exact l1 b o h
  ·intro b o h
   have hn : k1 b = none := by rcases e b with h' | h' <;> simp_all
   simp only [hn]; exact l2 b o (m2 b o h)
inductive Pick : List Ch -> List Ch -> Prop
  | refl (L : List Ch) : Pick L L
  | drop {C L : List Ch} (x : Ch) : Pick C L -> Pick C (x :: L)
  | cons {c : Ch} {C L L' : List Ch} : Ex c L L' -> Pick C L' -> Pick (c :: C) L
theorem Pick.sep {C L : List Ch} (h : Pick C L) : ∀ {hp : Hp}, Sep L hp -> Sep C hp := by
 induction h with
 | refl L => exact fun h => h
 | drop x _ ih => rintro hp ⟨h1, h2, _, _, l2, _, s⟩; exact ih (s.up l2)
 | cons hx _ ih =>
  intro hp s
  obtain ⟨h1, h2, d, l1, l2, c, s'⟩ := hx.sep s
  exact ⟨h1, h2, d, l1, l2, c, ih s'⟩
theorem St.pick {G : Gh} {L C : List Ch} {w : World} (h : St G L w) (p : Pick C L) : St G C w :=
 let ⟨hp, s, rest⟩ := h; ⟨hp, p.sep s, rest⟩
theorem Pick.nil (L : List Ch) : Pick [] L := by
 induction L with
 | nil => exact .refl _
 | cons x L ih => exact .drop x ih
class ExC (c : Ch) (L : List Ch) (L' : outParam (List Ch)) : Prop where
  ex : Ex c L L'
instance (priority := low) (c x : Ch) (L L' : List Ch) [h : ExC c L L'] : ExC c (x :: L) (x :: L') := ⟨.tail x h.ex⟩
instance (c : Ch) (L : List Ch) : ExC c (c :: L) L := ⟨.head c L⟩
class PickC (C L : List Ch) : Prop where
  pick : Pick C L
instance (priority := 10) (x : Ch) (C L : List Ch) [h : PickC C L] : PickC C (x :: L) := ⟨.drop x h.pick⟩
instance (priority := 20) (c : Ch) (C L L' : List Ch) [h : ExC c L L'] [k : PickC C L'] : PickC (c :: C) L := ⟨.cons h.ex k.pick⟩
instance (priority := 30) (L : List Ch) : PickC L L := ⟨.refl L⟩
instance (priority := 40) (L : List Ch) : PickC [] L := ⟨.nil L⟩
def Cv (L L' : List Ch) : Prop := ∀ hp, Sep L hp -> Sep L' hp
theorem Cv.refl (L : List Ch) : Cv L L := fun _ h => h
theorem Cv.trans {A B C : List Ch} (h : Cv A B) (k : Cv B C) : Cv A C := fun hp s => k hp (h hp s)
theorem Cv.pick {C L : List Ch} (p : Pick C L) : Cv L C := fun _ s => p.sep s
theorem Cv.p {C L : List Ch} [p : PickC C L] : Cv L C := Cv.pick p.pick
theorem St.cv {G : Gh} {L L' : List Ch} {w : World} (h : St G L w) (c : Cv L L') : St G L' w := let ⟨hp, s, rest⟩ := h; ⟨hp, c hp s, rest⟩
def ev (σ : Nat -> Value) : Operand -> Value
  | .tmp t => σ t
  | .const v => v
  | .global g => .pointer (some ⟨g, 0, none⟩)
  | .func f => .func (.func f) #[] #[]
def upd (σ : Nat -> Value) (d : Nat) (v : Value) : Nat -> Value := fun t => bif Nat.beq t d then v else σ t
def updo (σ : Nat -> Value) : Option Tmp -> Value -> Nat -> Value
  | some d, v => upd σ d v
  | none, _ => σ
def upds (σ : Nat -> Value) : List (Nat × Value) -> Nat -> Value
  | [] => σ
  | (d, v) :: l => upd (upds σ l) d v
structure Ag (n : Nat) (σ : Nat -> Value) (a : Act) : Prop where
  d : a.defers = []
  n : a.tmps.size = n
  e : ∀ t, a.tmps.getD t undef = σ t
def Tok (n : Nat) : Option Tmp -> Bool
  | some d => Nat.blt d n
  | none => true
theorem Ag.eval {n : Nat} {σ : Nat -> Value} {a : Act} (h : Ag n σ a) : a.eval = ev σ := by
 funext x; cases x <;> simp [Act.eval, ev, h.e]
theorem Ag.put {n : Nat} {σ : Nat -> Value} {a : Act} (h : Ag n σ a) {d : Option Tmp} (hd : Tok n d = true) (v : Value) : Ag n (updo σ d v) (a.put d v) := by
 cases d with
 | none => exact h
 | some d =>
  have hlt : d < a.tmps.size := by
   have h1 : d + 1 <= n := by simpa [Tok, Nat.blt] using hd
   exact Nat.lt_of_lt_of_eq h1 h.n.symm
  refine ⟨h.d, by simp [Act.put, h.n], fun t => ?_⟩
  simp only [Act.put, updo, upd]
  by_cases e : t = d
  ·subst e; simp [hlt]
  ·have : Nat.beq t d = false := by cases hb : Nat.beq t d with
    | false => rfl
    | true => exact absurd (Nat.eq_of_beq_eq_true hb) e
   simp only [this, cond_false]
   rw [<- h.e t]
   simp [Ne.symm e]
theorem Ag.ext {n : Nat} {σ τ : Nat -> Value} {a : Act} (h : Ag n σ a) (e : ∀ t, σ t = τ t) : Ag n τ a := ⟨h.d, h.n, fun t => (h.e t).trans (e t)⟩
abbrev Post := Exit -> (Nat -> Value) -> Gh -> List Ch -> Prop
def lift (n : Nat) (Q : Post) : Exit -> Act -> World -> Prop := fun e a w => ∃ σ G L, Ag n σ a ∧ St G L w ∧ Q e σ G L
def opsOk (n : Nat) (l : List Oper) : Bool := l.all fun o => Tok n o.dst
def codeOk (n : Nat) : Code -> Bool
  | .region _ ops _ => opsOk n ops.toList
  | .seq a b => codeOk n a && codeOk n b
  | .cond _ a b => codeOk n a && codeOk n b
  | .block _ a => codeOk n a
  | .loop a => codeOk n a
  | .scope a => codeOk n a
  | _ => true
@[irreducible] def WP (P : Program) (n : Nat) (c : Code) (Q : Post) (σ : Nat -> Value) (G : Gh) (L : List Ch) : Prop :=
  codeOk n c = true -> ∀ a w, Ag n σ a -> St G L w -> c.wp P (lift n Q) a w
def thenP (N : (Nat -> Value) -> Gh -> List Ch -> Prop) (Q : Post) : Post
  | .normal, σ, G, L => N σ G L
  | e, σ, G, L => Q e σ G L
def blockP (id : Nat) (Q : Post) : Post
  | .exit i, σ, G, L => bif Nat.beq i id then Q .normal σ G L else Q (.exit i) σ G L
  | e, σ, G, L => Q e σ G L
section rules
variable {P : Program} {n : Nat} {Q : Post} {σ : Nat -> Value} {G : Gh} {L : List Ch}
theorem WP.mono {c : Code} {Q' : Post} (h : WP P n c Q σ G L) (hq : ∀ e σ G L, Q e σ G L -> Q' e σ G L) : WP P n c Q' σ G L := by
 unfold WP at *
 exact fun hk a w ha hs => wp_mono (h hk a w ha hs) fun e a w ⟨σ, G, L, h1, h2, h3⟩ => ⟨σ, G, L, h1, h2, hq _ _ _ _ h3⟩
theorem WP.skip (h : Q .normal σ G L) : WP P n .skip Q σ G L := by
 unfold WP; exact fun _ _ _ ha hs => wp_skip ⟨σ, G, L, ha, hs, h⟩
theorem WP.exit {id : Nat} (h : Q (.exit id) σ G L) : WP P n (.exit id) Q σ G L := by
 unfold WP; exact fun _ _ _ ha hs => wp_exit ⟨σ, G, L, ha, hs, h⟩
theorem WP.ret (h : Q .ret σ G L) : WP P n .ret Q σ G L := by
 unfold WP; exact fun _ _ _ ha hs => wp_ret ⟨σ, G, L, ha, hs, h⟩
theorem WP.run {c : Code} (h : WP P n c Q σ G L) (hk : codeOk n c = true) {a : Act} {w : World} (ha : Ag n σ a) (hs : St G L w) : c.wp P (lift n Q) a w := by
 unfold WP at h; exact h hk a w ha hs
theorem WP.of {c : Code} (h : codeOk n c = true -> ∀ a w, Ag n σ a -> St G L w -> c.wp P (lift n Q) a w) : WP P n c Q σ G L := by
 unfold WP; exact h
theorem WP.seq {x y : Code} (h : WP P n x (thenP (WP P n y Q) Q) σ G L) : WP P n (.seq x y) Q σ G L := by
 refine WP.of ?_
 intro hk a w ha hs
 simp only [codeOk, Bool.and_eq_true] at hk
 refine wp_seq (wp_mono (h.run hk.1 ha hs) ?_)
 rintro e a w ⟨σ, G, L, h1, h2, h3⟩
 cases e with
 | normal => have h3 : WP P n y Q σ G L := h3; exact h3.run hk.2 h1 h2
 | _ => exact ⟨σ, G, L, h1, h2, h3⟩
theorem WP.cond {c : Operand} {x y : Code} {b : Bool} (hc : ev σ c = .bool b) (ht : b = true -> WP P n x Q σ G L) (hf : b = false -> WP P n y Q σ G L) : WP P n (.cond c x y) Q σ G L := by
 unfold WP at *
 intro hk a w ha hs
 simp only [codeOk, Bool.and_eq_true] at hk
 exact wp_cond_split (by rw [ha.eval]; exact hc) (fun h => ht h hk.1 a w ha hs) (fun h => hf h hk.2 a w ha hs)
theorem WP.block {id : Nat} {c : Code} (h : WP P n c (blockP id Q) σ G L) : WP P n (.block id c) Q σ G L := by
 unfold WP at *
 intro hk a w ha hs
 refine wp_block (wp_mono (h hk a w ha hs) ?_)
 rintro e a w ⟨σ, G, L, h1, h2, h3⟩
 cases e with
 | exit i =>
  by_cases e : i = id
  ·subst e
   have h3 : (bif Nat.beq i i then Q .normal σ G L else Q (.exit i) σ G L) := h3
   rw [Nat.beq_refl] at h3
   simp only [Exit.inBlock, if_true]; exact ⟨σ, G, L, h1, h2, h3⟩
  ·have h3 : (bif Nat.beq i id then Q .normal σ G L else Q (.exit i) σ G L) := h3
   have : Nat.beq i id = false := by cases hb : Nat.beq i id with
    | false => rfl
    | true => exact absurd (Nat.eq_of_beq_eq_true hb) e
   rw [this] at h3
   simp only [Exit.inBlock, e, if_false]; exact ⟨σ, G, L, h1, h2, h3⟩
 | _ => exact ⟨σ, G, L, h1, h2, h3⟩
theorem upds_agree : ∀ {vals : List (Nat × Value)} {τ : Nat -> Value}, (∀ p ∈ vals, τ p.1 = p.2) -> ∀ t, τ t = upds τ vals t
 | [], _, _, _ => rfl
 | (d, v) :: l, τ, h, t => by
  simp only [upds, upd]
  by_cases e : t = d
  ·subst e; rw [Nat.beq_refl]; exact h (t, v) (.head _)
  ·have : Nat.beq t d = false := by cases hb : Nat.beq t d with
    | false => rfl
    | true => exact absurd (Nat.eq_of_beq_eq_true hb) e
   simp only [this, cond_false]
   exact upds_agree (fun p hp => h p (.tail _ hp)) t
theorem WP.weak {c : Code} (vals : List (Nat × Value)) (C : List Ch) (hv : ∀ p ∈ vals, σ p.1 = p.2) (hC : Cv L C)
  (h : ∀ τ, WP P n c Q (upds τ vals) G C) : WP P n c Q σ G L := by
 have h := h σ
 unfold WP at *
 exact fun hk a w ha hs => h hk a w (ha.ext (upds_agree hv)) (hs.cv hC)
def HasV (σ : Nat -> Value) : List (Nat × Value) -> Prop
  | [] => True
  | (t, v) :: l => σ t = v ∧ HasV σ l
theorem HasV.all : ∀ {l : List (Nat × Value)} {σ : Nat -> Value}, HasV σ l -> ∀ p ∈ l, σ p.1 = p.2
 | (_, _) :: _, _, h, p, hp => by
  cases hp with
  | head => exact h.1
  | tail _ hp => exact HasV.all h.2 p hp
theorem HasV.append : ∀ {l m : List (Nat × Value)} {σ : Nat -> Value}, HasV σ l -> HasV σ m -> HasV σ (l ++ m)
 | [], _, _, _, h => h
 | (_, _) :: _, _, _, h, k => ⟨h.1, HasV.append h.2 k⟩
def kept (σ : Nat -> Value) : List Nat -> List (Nat × Value)
  | [] => []
  | t :: l => (t, σ t) :: kept σ l
def updk (τ σ : Nat -> Value) : List Nat -> Nat -> Value
  | [] => τ
  | t :: l => upd (updk τ σ l) t (σ t)
theorem upds_append : ∀ (l m : List (Nat × Value)) (σ : Nat -> Value), upds σ (l ++ m) = upds (upds σ m) l
 | [], _, _ => rfl
 | (_, _) :: l, m, σ => by simp only [List.cons_append, upds, upds_append l m σ]
theorem upds_kept : ∀ (l : List Nat) (τ σ : Nat -> Value), upds τ (kept σ l) = updk τ σ l
 | [], _, _ => rfl
 | _ :: l, τ, σ => by simp only [kept, upds, updk, upds_kept l τ σ]
def Keeps (σ σ0 : Nat -> Value) : List Nat -> Prop
  | [] => True
  | t :: l => σ t = σ0 t ∧ Keeps σ σ0 l
theorem Keeps.has : ∀ {l : List Nat} {σ σ0 : Nat -> Value}, Keeps σ σ0 l -> HasV σ (kept σ0 l)
 | [], _, _, _ => trivial
 | _ :: _, _, _, h => ⟨h.1, Keeps.has h.2⟩
theorem Keeps.self : ∀ (l : List Nat) (σ : Nat -> Value), Keeps σ σ l
 | [], _ => trivial
 | _ :: l, σ => ⟨rfl, Keeps.self l σ⟩
theorem WP.loop {c : Code} {X : Type} (keep : List Nat) (J : X -> Gh -> Prop) (S : X -> List (Nat × Value)) (C : X -> List Ch) (μ : X -> Nat) (x0 : X) (j0 : J x0 G) (h0 : HasV σ (S x0)) (p0 : Cv L (C x0))
  (round : ∀ x G τ, J x G -> WP P n c (thenP (fun σ' G' L' => ∃ x', J x' G' ∧ HasV σ' (S x') ∧ Keeps σ' σ keep ∧ Cv L' (C x') ∧ μ x' < μ x) Q) (upds (updk τ σ keep) (S x)) G (C x)) : WP P n (.loop c) Q σ G L := by
 refine WP.of ?_
 intro hk a w ha hs
 refine wp_loop_ghost (fun m a w => ∃ x σ1 G L, μ x = m ∧ Ag n σ1 a ∧ St G L w ∧ J x G ∧ HasV σ1 (S x) ∧ Keeps σ1 σ keep ∧ Cv L (C x)) (μ x0) ⟨x0, σ, G, L, rfl, ha, hs, j0, h0, Keeps.self _ _, p0⟩ ?_
 rintro m a w ⟨x, σ1, G, L, rfl, ha, hs, hj, hv, hkp, hc⟩
 have hx := fun t => upds_agree (hv.append hkp.has).all t
 have hr := round x G σ1 hj
 rw [<- upds_kept, <- upds_append] at hr
 refine wp_mono (hr.run hk (ha.ext hx) (hs.cv hc)) ?_
 rintro e a' w' ⟨σ', G', L', h1, h2, h3⟩
 cases e with
 | normal =>
  obtain ⟨x', hj', hv', hk', hc', hlt⟩ := h3
  exact ⟨μ x', hlt, x', σ', G', L', rfl, h1, h2, hj', hv', hk', hc'⟩
 | _ => exact ⟨σ', G', L', h1, h2, h3⟩
theorem WP.loop0 {c : Code} (keep : List Nat) {A : Type} (J : A -> Prop) (S : A -> List (Nat × Value)) (C : A -> List Ch) (μ : A -> Nat) (a0 : A) (j0 : J a0) (h0 : HasV σ (S a0)) (p0 : Cv L (C a0))
  (round : ∀ a τ, J a -> WP P n c (thenP (fun σ' G' L' => G' = G ∧ ∃ a', J a' ∧ HasV σ' (S a') ∧ Keeps σ' σ keep ∧ Cv L' (C a') ∧ μ a' < μ a) Q) (upds (updk τ σ keep) (S a)) G (C a)) : WP P n (.loop c) Q σ G L :=
 WP.loop keep (fun a G' => G' = G ∧ J a) S C μ a0 ⟨rfl, j0⟩ h0 p0 fun a G' τ ⟨e, j⟩ => by
  subst e
  exact WP.mono (round a τ j) fun e σ G L hq => by
   cases e with
   | normal => obtain ⟨rfl, a', h1, h2⟩ := hq; exact ⟨a', ⟨rfl, h1⟩, h2⟩
   | _ => exact hq
theorem WP.loop1 {c : Code} (keep : List Nat) {A : Type} (J : A -> Prop) (S : A -> List (Nat × Value)) (C : A -> List Ch) (μ : A -> Nat) (a0 : A) (j0 : J a0) (h0 : HasV σ (S a0)) (p0 : Cv L (C a0))
  (round : ∀ a τ, J a -> WP P n c (thenP (fun σ' G' L' => G' = G ∧ ∃ a', J a' ∧ HasV σ' (S a') ∧ Keeps σ' σ keep ∧ Cv L' (C a') ∧ μ a' < μ a) Q) (upds (updk τ σ keep) (S a)) G (C a)) : WP P n (.loop c) Q σ G L :=
 WP.loop0 keep J S C μ a0 j0 h0 p0 round
theorem WP.loop2 {c : Code} (keep : List Nat) {A B : Type} (J : A -> B -> Prop) (S : A -> B -> List (Nat × Value)) (C : A -> B -> List Ch) (μ : A -> B -> Nat) (a0 : A) (b0 : B) (j0 : J a0 b0) (h0 : HasV σ (S a0 b0)) (p0 : Cv L (C a0 b0))
  (round : ∀ a b τ, J a b -> WP P n c (thenP (fun σ' G' L' => G' = G ∧ ∃ a' b', J a' b' ∧ HasV σ' (S a' b') ∧ Keeps σ' σ keep ∧ Cv L' (C a' b') ∧ μ a' b' < μ a b) Q) (upds (updk τ σ keep) (S a b)) G (C a b)) : WP P n (.loop c) Q σ G L :=
 WP.loop0 keep (A := A × B) (fun x => J x.1 x.2) (fun x => S x.1 x.2) (fun x => C x.1 x.2) (fun x => μ x.1 x.2) (a0, b0) j0 h0 p0 fun x τ j =>
  WP.mono (round x.1 x.2 τ j) fun e σ G L hq => by
   cases e with
   | normal => obtain ⟨e, a', b', h⟩ := hq; exact ⟨e, (a', b'), h⟩
   | _ => exact hq
theorem WP.loop3 {c : Code} (keep : List Nat) {A B D : Type} (J : A -> B -> D -> Prop) (S : A -> B -> D -> List (Nat × Value)) (C : A -> B -> D -> List Ch) (μ : A -> B -> D -> Nat) (a0 : A) (b0 : B) (d0 : D) (j0 : J a0 b0 d0) (h0 : HasV σ (S a0 b0 d0)) (p0 : Cv L (C a0 b0 d0))
  (round : ∀ a b d τ, J a b d -> WP P n c (thenP (fun σ' G' L' => G' = G ∧ ∃ a' b' d', J a' b' d' ∧ HasV σ' (S a' b' d') ∧ Keeps σ' σ keep ∧ Cv L' (C a' b' d') ∧ μ a' b' d' < μ a b d) Q) (upds (updk τ σ keep) (S a b d)) G (C a b d)) : WP P n (.loop c) Q σ G L :=
 WP.loop0 keep (A := A × B × D) (fun x => J x.1 x.2.1 x.2.2) (fun x => S x.1 x.2.1 x.2.2) (fun x => C x.1 x.2.1 x.2.2) (fun x => μ x.1 x.2.1 x.2.2) (a0, b0, d0) j0 h0 p0 fun x τ j =>
  WP.mono (round x.1 x.2.1 x.2.2 τ j) fun e σ G L hq => by
   cases e with
   | normal => obtain ⟨e, a', b', d', h⟩ := hq; exact ⟨e, (a', b', d'), h⟩
   | _ => exact hq
theorem WP.cut {x y : Code} {X : Type} (keep : List Nat) (J : X -> Gh -> Prop) (S : X -> List (Nat × Value)) (C : X -> List Ch)
  (h : WP P n x (thenP (fun σ' G' L' => ∃ x', J x' G' ∧ HasV σ' (S x') ∧ Keeps σ' σ keep ∧ Cv L' (C x')) Q) σ G L)
  (k : ∀ x' G τ, J x' G -> WP P n y Q (upds (updk τ σ keep) (S x')) G (C x')) : WP P n (.seq x y) Q σ G L := by
 refine WP.seq (WP.mono h ?_)
 intro e σ' G L hq
 cases e with
 | normal =>
  obtain ⟨x', hj, hv, hk, hc⟩ := hq
  refine WP.weak (S x' ++ kept σ keep) (C x') (hv.append hk.has).all hc fun τ => ?_
  rw [upds_append, upds_kept]
  exact k x' G τ hj
 | _ => exact hq
theorem WP.cut1 {x y : Code} {A : Type} (keep : List Nat) (J : A -> Prop) (S : A -> List (Nat × Value)) (C : A -> List Ch)
  (h : WP P n x (thenP (fun σ' G' L' => G' = G ∧ ∃ a, J a ∧ HasV σ' (S a) ∧ Keeps σ' σ keep ∧ Cv L' (C a)) Q) σ G L)
  (k : ∀ a τ, J a -> WP P n y Q (upds (updk τ σ keep) (S a)) G (C a)) : WP P n (.seq x y) Q σ G L :=
 WP.cut keep (fun a G' => G' = G ∧ J a) S C (WP.mono h fun e σ G L hq => by
   cases e with
   | normal => obtain ⟨rfl, a', h1, h2⟩ := hq; exact ⟨a', ⟨rfl, h1⟩, h2⟩
   | _ => exact hq) fun a G' τ ⟨e, j⟩ => by subst e; exact k a τ j
theorem WP.cut2 {x y : Code} {A B : Type} (keep : List Nat) (J : A -> B -> Prop) (S : A -> B -> List (Nat × Value)) (C : A -> B -> List Ch)
  (h : WP P n x (thenP (fun σ' G' L' => G' = G ∧ ∃ a b, J a b ∧ HasV σ' (S a b) ∧ Keeps σ' σ keep ∧ Cv L' (C a b)) Q) σ G L)
  (k : ∀ a b τ, J a b -> WP P n y Q (upds (updk τ σ keep) (S a b)) G (C a b)) : WP P n (.seq x y) Q σ G L :=
 WP.cut1 keep (A := A × B) (fun x => J x.1 x.2) (fun x => S x.1 x.2) (fun x => C x.1 x.2) (WP.mono h fun e σ G L hq => by
   cases e with
   | normal => obtain ⟨e, a', b', h⟩ := hq; exact ⟨e, (a', b'), h⟩
   | _ => exact hq) fun a τ j => k a.1 a.2 τ j
theorem WP.cut3 {x y : Code} {A B D : Type} (keep : List Nat) (J : A -> B -> D -> Prop) (S : A -> B -> D -> List (Nat × Value)) (C : A -> B -> D -> List Ch)
  (h : WP P n x (thenP (fun σ' G' L' => G' = G ∧ ∃ a b d, J a b d ∧ HasV σ' (S a b d) ∧ Keeps σ' σ keep ∧ Cv L' (C a b d)) Q) σ G L)
  (k : ∀ a b d τ, J a b d -> WP P n y Q (upds (updk τ σ keep) (S a b d)) G (C a b d)) : WP P n (.seq x y) Q σ G L :=
 WP.cut1 keep (A := A × B × D) (fun x => J x.1 x.2.1 x.2.2) (fun x => S x.1 x.2.1 x.2.2) (fun x => C x.1 x.2.1 x.2.2) (WP.mono h fun e σ G L hq => by
   cases e with
   | normal => obtain ⟨e, a', b', d', h⟩ := hq; exact ⟨e, (a', b', d'), h⟩
   | _ => exact hq) fun a τ j => k a.1 a.2.1 a.2.2 τ j
end rules
section
variable {P : Program} {n : Nat} {ops : Array Oper} {rest : List Oper} {Q : Post} {σ : Nat -> Value} {G : Gh} {L : List Ch} {o : Oper}
@[irreducible] def RG (P : Program) (n : Nat) (ops : Array Oper) (rest : List Oper) (Q : Post) (σ : Nat -> Value) (G : Gh) (L : List Ch) : Prop :=
  opsOk n rest = true -> ∀ a w, Ag n σ a -> St G L w -> wpList P ops (lift n Q) rest a w
theorem RG.run (h : RG P n ops rest Q σ G L) (hk : opsOk n rest = true) {a : Act} {w : World} (ha : Ag n σ a) (hs : St G L w) : wpList P ops (lift n Q) rest a w := by
 unfold RG at h; exact h hk a w ha hs
theorem RG.of (h : opsOk n rest = true -> ∀ a w, Ag n σ a -> St G L w -> wpList P ops (lift n Q) rest a w) : RG P n ops rest Q σ G L := by
 unfold RG; exact h
theorem WP.region {id : Nat} {l : List Oper} (h : RG P n l.toArray l Q σ G L) : WP P n (.region id l.toArray false) Q σ G L :=
 WP.of fun hk _ _ ha hs => wp_region_lit (h.run (by simpa [codeOk] using hk) ha hs)
theorem WP.sr {P : Program} {n : Nat} {Q : Post} {σ : Nat -> Value} {G : Gh} {L : List Ch} {id : Nat} {l : List Oper} {y : Code} (h : RG P n l.toArray l (thenP (WP P n y Q) Q) σ G L) : WP P n (.seq (.region id l.toArray false) y) Q σ G L := WP.seq (WP.region h)
theorem RG.nil (h : Q .normal σ G L) : RG P n ops [] Q σ G L := RG.of fun _ _ _ ha hs => ⟨σ, G, L, ha, hs, h⟩
def PV (P : Program) (o : Oper) (σ : Nat -> Value) (G : Gh) (L : List Ch) (v : Value) : Prop :=
  ∀ w, St G L w -> (execOp (ev σ) o).run P w = .ok (.value v) w
def OT (P : Program) (n : Nat) (o : Oper) (σ : Nat -> Value) (G : Gh) (L : List Ch) (K : (Nat -> Value) -> Gh -> List Ch -> Prop) : Prop :=
  Tok n o.dst = true -> ∀ a w, Ag n σ a -> St G L w -> ∀ Q', o.wp P a w (fun a' w' => ∃ σ' G' L', Ag n σ' a' ∧ St G' L' w' ∧ K σ' G' L') Q'
theorem opsOk_cons (h : opsOk n (o :: rest) = true) : Tok n o.dst = true ∧ opsOk n rest = true := by
 simpa [opsOk] using h
theorem RG.ot (hg : o.guard = none) (h : OT P n o σ G L (fun σ' G' L' => RG P n ops rest Q σ' G' L')) : RG P n ops (o :: rest) Q σ G L := by
 refine RG.of fun hk a w ha hs => ?_
 have hk := opsOk_cons hk
 refine wpList_plain hg fun K hK => ?_
 refine Oper.wp_mono (fun a' w' ⟨σ', G', L', h1, h2, h3⟩ => hK _ _ (h3.run hk.2 h1 h2)) (h hk.1 a w ha hs _)
theorem OT.pv {v : Value} {K : (Nat -> Value) -> Gh -> List Ch -> Prop} (h : PV P o σ G L v) (k : K (updo σ o.dst v) G L) : OT P n o σ G L K := by
 intro hk a w ha hs Q'
 unfold Oper.wp
 rw [ha.eval, h w hs]
 exact ⟨_, _, _, ha.put hk v, hs, k⟩
theorem RG.pv {v : Value} (hg : o.guard = none) (h : PV P o σ G L v) (k : RG P n ops rest Q (updo σ o.dst v) G L) : RG P n ops (o :: rest) Q σ G L :=
 RG.ot hg (OT.pv h k)
theorem RG.p {P : Program} {n : Nat} {ops : Array Oper} {rest : List Oper} {Q : Post} {σ : Nat -> Value} {G : Gh} {L : List Ch} {o : Oper} {v : Value} (h : PV P o σ G L v) (k : RG P n ops rest Q (updo σ o.dst v) G L) (hg : o.guard = none := by exact rfl) : RG P n ops (o :: rest) Q σ G L := RG.pv hg h k
@[irreducible] def gv (b : Bool) (v : Value) : Value := bif b then v else undef
theorem gt' {b : Bool} {v : Value} (h : b = true) : gv b v = v := by subst h; unfold gv; rfl
theorem gs_f {b : Bool} {v : Value} (h : b = false) : gv b v = undef := by subst h; unfold gv; rfl
theorem geqT {q : Bool} (h : q = true) : (q == true) = true := by subst h; rfl
theorem geqF {q : Bool} (h : q = false) : (q == false) = true := by subst h; rfl
theorem gandT {b q : Bool} (h : b = true) (k : q = true) : (b && (q == true)) = true := by subst h k; rfl
theorem gandF {b q : Bool} (h : b = true) (k : q = false) : (b && (q == false)) = true := by subst h k; rfl
theorem gne {p : Bool} (h : p = false) : p ≠ true := by simp [h]
theorem yielded_ag {a : Act} (ha : Ag n σ a) {j t : Nat} {b : Bool} (hj : (ops[j]?).bind (·.dst) = some t) (hb : σ t = .bool b) : yielded ops a.tmps j = some b := by
 have h := ha.e t
 rw [hb] at h
 have h2 : a.tmps[t]? = some (.bool b) := by
  cases hh : a.tmps[t]? with
  | some x => simp [Array.getD_eq_getD_getElem?, hh] at h; rw [h]
  | none => simp [Array.getD_eq_getD_getElem?, hh, undef] at h
 simp [yielded, hj, h2]
theorem RG.skip {j t : Nat} {want b : Bool} (hg : o.guard = some (j, want)) (hj : (ops[j]?).bind (·.dst) = some t) (hb : σ t = .bool b) (hw : b ≠ want) (k : RG P n ops rest Q (updo σ o.dst undef) G L) : RG P n ops (o :: rest) Q σ G L := by
 refine RG.of fun hk a w ha hs => ?_
 have hk := opsOk_cons hk
 have hn : Region.wanted o (yielded ops a.tmps) = false := by
  simp only [Region.wanted, hg, yielded_ag ha hj hb]
  cases b <;> cases want <;> simp_all
 unfold wpList
 rw [if_neg (by simp [hn])]
 exact k.run hk.2 (ha.put hk.1 _) hs
theorem RG.take {j t : Nat} {want b : Bool} (hg : o.guard = some (j, want)) (hj : (ops[j]?).bind (·.dst) = some t) (hb : σ t = .bool b) (hw : b = want) (k : RG P n ops ({ o with guard := none } :: rest) Q σ G L) : RG P n ops (o :: rest) Q σ G L := by
 refine RG.of fun hk a w ha hs => ?_
 subst hw
 have hn : Region.wanted o (yielded ops a.tmps) = true := by
  simp only [Region.wanted, hg, yielded_ag ha hj hb]; simp
 have h := k.run (by simpa [opsOk] using hk) ha hs
 unfold wpList at h ⊢
 rw [if_pos hn]
 rw [if_pos (by rfl)] at h
 exact h
theorem yielded_none {a : Act} (ha : Ag n σ a) {j t : Nat} (hj : (ops[j]?).bind (·.dst) = some t) (hb : σ t = undef) : yielded ops a.tmps j = none := by
 have h := ha.e t
 rw [hb] at h
 unfold yielded
 rw [hj]
 simp only [Option.bind_some]
 cases hh : a.tmps[t]? with
 | none => rfl
 | some x => simp [Array.getD_eq_getD_getElem?, hh] at h; subst h; rfl
theorem RG.skip0 {j t : Nat} {want : Bool} (hg : o.guard = some (j, want)) (hj : (ops[j]?).bind (·.dst) = some t) (hb : σ t = undef) (k : RG P n ops rest Q (updo σ o.dst undef) G L) : RG P n ops (o :: rest) Q σ G L := by
 refine RG.of fun hk a w ha hs => ?_
 have hk := opsOk_cons hk
 have hn : Region.wanted o (yielded ops a.tmps) = false := by
  simp only [Region.wanted, hg, yielded_none ha hj hb]; rfl
 unfold wpList
 rw [if_neg (by simp [hn])]
 exact k.run hk.2 (ha.put hk.1 _) hs
theorem RG.gsK {j t : Nat} {want p : Bool} (hg : o.guard = some (j, want)) (hj : (ops[j]?).bind (·.dst) = some t) (hb : σ t = .bool p) {v : Value}
  (h : (p == want) = true -> RG P n ops rest Q (updo σ o.dst v) G L -> RG P n ops ({ o with guard := none } :: rest) Q σ G L) (k : RG P n ops rest Q (updo σ o.dst (gv (p == want) v)) G L) : RG P n ops (o :: rest) Q σ G L := by
 by_cases e : p = want
 ·have he : (p == want) = true := by simp [e]
  rw [gt' he] at k
  exact RG.take hg hj hb e (h he k)
 ·have he : (p == want) = false := by simp [e]
  rw [gs_f he] at k
  exact RG.skip hg hj hb e k
theorem RG.gsK2 {j t : Nat} {want b p : Bool} (hg : o.guard = some (j, want)) (hj : (ops[j]?).bind (·.dst) = some t) (hb : σ t = gv b (.bool p)) {v : Value}
  (h : (b && (p == want)) = true -> RG P n ops rest Q (updo σ o.dst v) G L -> RG P n ops ({ o with guard := none } :: rest) Q σ G L) (k : RG P n ops rest Q (updo σ o.dst (gv (b && (p == want)) v)) G L) : RG P n ops (o :: rest) Q σ G L := by
 cases b with
 | true => rw [gt' rfl] at hb; exact RG.gsK hg hj hb (by simpa using h) (by simpa using k)
 | false => rw [gs_f rfl] at hb; rw [Bool.false_and, gs_f rfl] at k; exact RG.skip0 hg hj hb k
theorem RG.gs {j t : Nat} {want p : Bool} {v : Value} (hg : o.guard = some (j, want)) (hj : (ops[j]?).bind (·.dst) = some t) (hb : σ t = .bool p) (h : (p == want) = true -> PV P o σ G L v) (k : RG P n ops rest Q (updo σ o.dst (gv (p == want) v)) G L) : RG P n ops (o :: rest) Q σ G L :=
 RG.gsK hg hj hb (fun e k => RG.pv rfl (fun w hs => h e w hs) k) k
theorem RG.g {P : Program} {n : Nat} {ops : Array Oper} {rest : List Oper} {Q : Post} {σ : Nat -> Value} {G : Gh} {L : List Ch} {o : Oper} {j t : Nat} {want p : Bool} {v : Value} (e : (o.guard, (ops[j]?).bind (·.dst), σ t) = (some (j, want), some t, .bool p)) (h : (p == want) = true -> PV P o σ G L v) (k : RG P n ops rest Q (updo σ o.dst (gv (p == want) v)) G L) : RG P n ops (o :: rest) Q σ G L := by
  simp only [Prod.mk.injEq] at e
  exact RG.gs e.1 e.2.1 e.2.2 h k
theorem RG.gs2 {j t : Nat} {want b p : Bool} {v : Value} (hg : o.guard = some (j, want)) (hj : (ops[j]?).bind (·.dst) = some t) (hb : σ t = gv b (.bool p)) (h : (b && (p == want)) = true -> PV P o σ G L v) (k : RG P n ops rest Q (updo σ o.dst (gv (b && (p == want)) v)) G L) : RG P n ops (o :: rest) Q σ G L :=
 RG.gsK2 hg hj hb (fun e k => RG.pv rfl (fun w hs => h e w hs) k) k
theorem RG.spl {t : Nat} {p : Bool} (hb : σ t = .bool p) (h1 : p = true -> RG P n ops rest Q σ G L) (h2 : p = false -> RG P n ops rest Q σ G L) : RG P n ops rest Q σ G L := by
 cases p with
 | true => exact h1 rfl
 | false => exact h2 rfl
@[irreducible] def CallT (P : Program) (f : FuncId) (args : Array Value) (G : Gh) (L : List Ch) (R : Value -> Gh -> List Ch -> Prop) : Prop :=
  ∀ w, St G L w -> Calls P f args w fun e w' => ∃ v G' L', e = .returned v ∧ St G' L' w' ∧ R v G' L'
theorem CallT.run {f : FuncId} {args : Array Value} {R : Value -> Gh -> List Ch -> Prop} (h : CallT P f args G L R) {w : World} (hs : St G L w) :
  Calls P f args w fun e w' => ∃ v G' L', e = .returned v ∧ St G' L' w' ∧ R v G' L' := by
 unfold CallT at h; exact h w hs
theorem CallT.of {f : FuncId} {args : Array Value} {R : Value -> Gh -> List Ch -> Prop} (h : ∀ w, St G L w -> Calls P f args w fun e w' => ∃ v G' L', e = .returned v ∧ St G' L' w' ∧ R v G' L') : CallT P f args G L R := by
 unfold CallT; exact h
theorem CallT.mono {f : FuncId} {args : Array Value} {R R' : Value -> Gh -> List Ch -> Prop} (h : CallT P f args G L R) (hr : ∀ v G L, R v G L -> R' v G L) : CallT P f args G L R' :=
 CallT.of fun _ hs => (h.run hs).mono fun _ _ ⟨v, G', L', h1, h2, h3⟩ => ⟨v, G', L', h1, h2, hr _ _ _ h3⟩
def Ent (P : Program) (f : FuncId) : Prop := ∀ args w, (callFunc f args).run P w = .ok (.enter f args) w
theorem ent_of {f : FuncId} {fn : Func} (hf : P.funcs[f]? = some fn) (hn : (fn.name == "runtime.NumGoroutine") = false) (hb : fn.body.isNone = false) : Ent P f := by
 intro args w
 simp only [callFunc, Sem.run_bind, run_program, Result.andThen_ok, hf, hn, hb, Bool.false_eq_true, if_false, Sem.run_pure]
def cargs (σ : Nat -> Value) : List Operand -> List Value
  | [] => []
  | x :: l => ev σ x :: cargs σ l
theorem cargs_map (σ : Nat -> Value) (l : List Operand) : cargs σ l = l.map (ev σ) := by induction l <;> simp_all [cargs]
theorem anil {σ : Nat -> Value} : cargs σ [] = [] := rfl
theorem acons {σ : Nat -> Value} {x : Operand} {v : Value} {l : List Operand} {vs : List Value} (h : ev σ x = v) (k : cargs σ l = vs) : cargs σ (x :: l) = v :: vs := by rw [cargs, h, k]
theorem enter_run {f : FuncId} {l : List Operand} {ats : Array TypeId} {fo : Operand} {first caps : List Value} (ho : o.op = .call { callee := .value fo, args := l.toArray, argTypes := ats }) (hf : ev σ fo = .func (.func f) first.toArray caps.toArray) (hE : Ent P f) (w : World) :
  (execOp (ev σ) o).run P w = .ok (.enter f (first ++ cargs σ l ++ caps).toArray) w := by
 simp [execOp, ho, resolve, hf, Deferred.ofValue, invoke, hE _ w, cargs_map]
theorem OT.call {f : FuncId} {l : List Operand} {ats : Array TypeId} {fo : Operand} {first caps : List Value} {K : (Nat -> Value) -> Gh -> List Ch -> Prop}
  (ho : o.op = .call { callee := .value fo, args := l.toArray, argTypes := ats }) (hf : ev σ fo = .func (.func f) first.toArray caps.toArray) (hE : Ent P f)
  (h : CallT P f (first ++ cargs σ l ++ caps).toArray G L fun v G' L' => K (updo σ o.dst v) G' L') : OT P n o σ G L K := by
 intro hk a w hag hs Q'
 unfold Oper.wp
 rw [hag.eval, enter_run ho hf hE w, Oper.upon_enter]
 refine (h.run hs).mono ?_
 rintro e w' ⟨v, G', L', rfl, h2, h3⟩
 exact ⟨_, _, _, hag.put hk v, h2, h3⟩
theorem RG.callF {f : FuncId} {l : List Operand} {ats : Array TypeId} {vs : List Value} (hg : o.guard = none)
  (ho : o.op = .call { callee := .value (.func f), args := l.toArray, argTypes := ats }) (hE : Ent P f) (ha : cargs σ l = vs)
  (h : CallT P f vs.toArray G L fun v G' L' => RG P n ops rest Q (updo σ o.dst v) G' L') : RG P n ops (o :: rest) Q σ G L :=
 RG.ot hg (OT.call (first := []) (caps := []) ho rfl hE (by subst ha; simpa using h))
theorem RG.callC {f : FuncId} {l : List Operand} {ats : Array TypeId} {fo : Operand} {first caps : List Value} (hg : o.guard = none)
  (ho : o.op = .call { callee := .value fo, args := l.toArray, argTypes := ats }) (hf : ev σ fo = .func (.func f) first.toArray caps.toArray) (hE : Ent P f)
  (h : CallT P f (first ++ cargs σ l ++ caps).toArray G L fun v G' L' => RG P n ops rest Q (updo σ o.dst v) G' L') : RG P n ops (o :: rest) Q σ G L :=
 RG.ot hg (OT.call ho hf hE h)
theorem gcall {f : FuncId} {l : List Operand} {R : Value -> Gh -> List Ch -> Prop} (h : ∃ vs, cargs σ l = vs ∧ CallT P f vs.toArray G L R) : CallT P f (cargs σ l).toArray G L R := by
 obtain ⟨vs, rfl, h⟩ := h; exact h
theorem RG.gsC {j t : Nat} {want p : Bool} {v : Value} {f : FuncId} {l : List Operand} {ats : Array TypeId} (hg : o.guard = some (j, want)) (hj : (ops[j]?).bind (·.dst) = some t) (hb : σ t = .bool p)
  (ho : o.op = .call { callee := .value (.func f), args := l.toArray, argTypes := ats }) (hE : Ent P f)
  (h : (p == want) = true -> ∃ vs, cargs σ l = vs ∧ CallT P f vs.toArray G L fun v' G' L' => v' = v ∧ G' = G ∧ L' = L) (k : RG P n ops rest Q (updo σ o.dst (gv (p == want) v)) G L) : RG P n ops (o :: rest) Q σ G L :=
 RG.gsK hg hj hb (fun e k => RG.callF rfl ho hE rfl ((gcall (h e)).mono fun v' G' L' ⟨e1, e2, e3⟩ => by subst e1 e2 e3; exact k)) k
theorem RG.gsC2 {j t : Nat} {want b p : Bool} {v : Value} {f : FuncId} {l : List Operand} {ats : Array TypeId} (hg : o.guard = some (j, want)) (hj : (ops[j]?).bind (·.dst) = some t) (hb : σ t = gv b (.bool p))
  (ho : o.op = .call { callee := .value (.func f), args := l.toArray, argTypes := ats }) (hE : Ent P f)
  (h : (b && (p == want)) = true -> ∃ vs, cargs σ l = vs ∧ CallT P f vs.toArray G L fun v' G' L' => v' = v ∧ G' = G ∧ L' = L) (k : RG P n ops rest Q (updo σ o.dst (gv (b && (p == want)) v)) G L) : RG P n ops (o :: rest) Q σ G L :=
 RG.gsK2 hg hj hb (fun e k => RG.callF rfl ho hE rfl ((gcall (h e)).mono fun v' G' L' ⟨e1, e2, e3⟩ => by subst e1 e2 e3; exact k)) k
@[irreducible] def RQ (P : Program) (n : Nat) (ops : Array Oper) (rest : List Oper) (Q : Post) (σ : Nat -> Value) (G : Gh) (L : List Ch) : Prop :=
  opsOk n rest = true -> ∀ a, Ag n σ a -> wpQuiet P ops (St G L) (fun a' => ∀ w', St G L w' -> lift n Q .normal a' w') rest a
theorem RQ.run (h : RQ P n ops rest Q σ G L) (hk : opsOk n rest = true) {a : Act} (ha : Ag n σ a) : wpQuiet P ops (St G L) (fun a' => ∀ w', St G L w' -> lift n Q .normal a' w') rest a := by
 unfold RQ at h; exact h hk a ha
theorem RQ.of (h : opsOk n rest = true -> ∀ a, Ag n σ a -> wpQuiet P ops (St G L) (fun a' => ∀ w', St G L w' -> lift n Q .normal a' w') rest a) : RQ P n ops rest Q σ G L := by
 unfold RQ; exact h
theorem WP.regionQ {id : Nat} {l : List Oper} (hm : P.follows .mixedOrders = true) (hB : Region.lexB .any l.toArray = true) (h : RQ P n l.toArray l Q σ G L) : WP P n (.region id l.toArray true) Q σ G L :=
 WP.of fun hk a w ha hs => wp_region_quiet (C := St G L) hm hB hs.dr1 (by simpa using h.run (by simpa [codeOk] using hk) ha)
theorem RQ.nil (h : Q .normal σ G L) : RQ P n ops [] Q σ G L := RQ.of fun _ _ ha _ hs => ⟨σ, G, L, ha, hs, h⟩
theorem RQ.step (hg : o.guard = none) {v : Value} (hq : ∀ a, Ag n σ a -> ∀ w, St G L w -> o.quietAt P a (St G L) w v) (k : RQ P n ops rest Q (updo σ o.dst v) G L) : RQ P n ops (o :: rest) Q σ G L := by
 refine RQ.of fun hk a ha => ?_
 have hk := opsOk_cons hk
 unfold wpQuiet
 rw [if_pos (by simp [Region.wanted, hg])]
 exact ⟨v, hq a ha, k.run hk.2 (ha.put hk.1 v)⟩
theorem RQ.pv {v : Value} (hg : o.guard = none) (h : PV P o σ G L v) (k : RQ P n ops rest Q (updo σ o.dst v) G L) : RQ P n ops (o :: rest) Q σ G L :=
 RQ.step hg (fun a ha w hs => by unfold Oper.quietAt; rw [ha.eval, h w hs]; exact ⟨rfl, rfl⟩) k
theorem RQ.skip {j t : Nat} {want b : Bool} (hg : o.guard = some (j, want)) (hj : (ops[j]?).bind (·.dst) = some t) (hb : σ t = .bool b) (hw : b ≠ want) (k : RQ P n ops rest Q (updo σ o.dst undef) G L) : RQ P n ops (o :: rest) Q σ G L := by
 refine RQ.of fun hk a ha => ?_
 have hk := opsOk_cons hk
 have hn : Region.wanted o (yielded ops a.tmps) = false := by
  simp only [Region.wanted, hg, yielded_ag ha hj hb]
  cases b <;> cases want <;> simp_all
 unfold wpQuiet
 rw [if_neg (by simp [hn])]
 exact k.run hk.2 (ha.put hk.1 _)
theorem RQ.take {j t : Nat} {want b : Bool} (hg : o.guard = some (j, want)) (hj : (ops[j]?).bind (·.dst) = some t) (hb : σ t = .bool b) (hw : b = want) (k : RQ P n ops ({ o with guard := none } :: rest) Q σ G L) : RQ P n ops (o :: rest) Q σ G L := by
 refine RQ.of fun hk a ha => ?_
 subst hw
 have hn : Region.wanted o (yielded ops a.tmps) = true := by
  simp only [Region.wanted, hg, yielded_ag ha hj hb]; simp
 have h := k.run (by simpa [opsOk] using hk) ha
 unfold wpQuiet at h ⊢
 rw [if_pos hn]
 rw [if_pos (by rfl)] at h
 exact h
theorem RQ.gsK {j t : Nat} {want p : Bool} (hg : o.guard = some (j, want)) (hj : (ops[j]?).bind (·.dst) = some t) (hb : σ t = .bool p) {v : Value}
  (h : (p == want) = true -> RQ P n ops rest Q (updo σ o.dst v) G L -> RQ P n ops ({ o with guard := none } :: rest) Q σ G L) (k : RQ P n ops rest Q (updo σ o.dst (gv (p == want) v)) G L) : RQ P n ops (o :: rest) Q σ G L := by
 by_cases e : p = want
 ·have he : (p == want) = true := by simp [e]
  rw [gt' he] at k
  exact RQ.take hg hj hb e (h he k)
 ·have he : (p == want) = false := by simp [e]
  rw [gs_f he] at k
  exact RQ.skip hg hj hb e k
theorem RQ.gs {j t : Nat} {want p : Bool} {v : Value} (hg : o.guard = some (j, want)) (hj : (ops[j]?).bind (·.dst) = some t) (hb : σ t = .bool p) (h : (p == want) = true -> PV P o σ G L v) (k : RQ P n ops rest Q (updo σ o.dst (gv (p == want) v)) G L) : RQ P n ops (o :: rest) Q σ G L :=
 RQ.gsK hg hj hb (fun e k => RQ.pv rfl (fun w hs => h e w hs) k) k
theorem RQ.callC {f : FuncId} {l : List Operand} {ats : Array TypeId} {fo : Operand} {first caps : List Value} {v : Value} (hg : o.guard = none)
  (ho : o.op = .call { callee := .value fo, args := l.toArray, argTypes := ats }) (hf : ev σ fo = .func (.func f) first.toArray caps.toArray) (hE : Ent P f)
  (h : CallT P f (first ++ cargs σ l ++ caps).toArray G L fun v' G' L' => v' = v ∧ G' = G ∧ L' = L) (k : RQ P n ops rest Q (updo σ o.dst v) G L) : RQ P n ops (o :: rest) Q σ G L := by
 refine RQ.step hg (fun a hag w hs => ?_) k
 unfold Oper.quietAt
 rw [hag.eval, enter_run ho hf hE w]
 refine ⟨rfl, (h.run hs).mono ?_⟩
 rintro e w' ⟨v', G', L', rfl, h2, rfl, rfl, rfl⟩
 exact ⟨rfl, h2⟩
theorem RQ.callF {f : FuncId} {l : List Operand} {ats : Array TypeId} {v : Value} {vs : List Value} (hg : o.guard = none)
  (ho : o.op = .call { callee := .value (.func f), args := l.toArray, argTypes := ats }) (hE : Ent P f) (ha : cargs σ l = vs)
  (h : CallT P f vs.toArray G L fun v' G' L' => v' = v ∧ G' = G ∧ L' = L) (k : RQ P n ops rest Q (updo σ o.dst v) G L) : RQ P n ops (o :: rest) Q σ G L :=
 RQ.callC (first := []) (caps := []) hg ho rfl hE (by subst ha; simpa using h) k
theorem RQ.gsC {j t : Nat} {want p : Bool} {v : Value} {f : FuncId} {l : List Operand} {ats : Array TypeId} (hg : o.guard = some (j, want)) (hj : (ops[j]?).bind (·.dst) = some t) (hb : σ t = .bool p)
  (ho : o.op = .call { callee := .value (.func f), args := l.toArray, argTypes := ats }) (hE : Ent P f)
  (h : (p == want) = true -> ∃ vs, cargs σ l = vs ∧ CallT P f vs.toArray G L fun v' G' L' => v' = v ∧ G' = G ∧ L' = L) (k : RQ P n ops rest Q (updo σ o.dst (gv (p == want) v)) G L) : RQ P n ops (o :: rest) Q σ G L :=
 RQ.gsK hg hj hb (fun e k => RQ.callF rfl ho hE rfl (gcall (h e)) k) k
def RV1 (P : Program) (σ : Nat -> Value) (G : Gh) (L : List Ch) : ResultVar -> Value -> Prop
  | .tmp t, v => σ t = v
  | .cell a t, v => ∀ w, St G L w -> (do loadVar t (<- asAddr (σ a)) : Sem Value).run P w = .ok v w
def ResV (P : Program) (fn : Func) (σ : Nat -> Value) (G : Gh) (L : List Ch) (v : Value) : Prop :=
  ∀ w (tmps : Array Value), (∀ t, tmps.getD t undef = σ t) -> St G L w -> (results fn tmps).run P w = .ok v w
def rget (tmps : Array Value) : ResultVar -> Sem Value
  | .tmp t => pure (tmps.getD t undef)
  | .cell a t => do loadVar t (<- asAddr (tmps.getD a undef))
theorem results_rget (fn : Func) (tmps : Array Value) : results fn tmps = (do let vs <- fn.results.mapM (rget tmps); pure (if h : vs.size = 1 then vs[0] else .tuple vs)) := by
 unfold results
 congr 1
theorem rget_run {rv : ResultVar} {v : Value} (h : RV1 P σ G L rv v) {w : World} {tmps : Array Value} (ht : ∀ t, tmps.getD t undef = σ t) (hs : St G L w) :
  (rget tmps rv).run P w = .ok v w := by
 cases rv with
 | tmp t => have h : σ t = v := h; simp only [rget, ht, h]; rfl
 | cell a t => simp only [rget, ht]; exact h w hs
theorem ResV.zero {fn : Func} (hr : fn.results = #[]) : ResV P fn σ G L (.tuple #[]) := by
 intro w tmps ht hs; simp [results, hr]
theorem ResV.one {fn : Func} {rv : ResultVar} {v : Value} (hr : fn.results = #[rv]) (h : RV1 P σ G L rv v) : ResV P fn σ G L v := by
 intro w tmps ht hs
 have h1 := rget_run h ht hs
 simp [results_rget, hr, h1]
theorem rv {P : Program} {σ : Nat -> Value} {G : Gh} {L : List Ch} {fn : Func} {rv : ResultVar} {v : Value} (hr : fn.results = #[rv]) (h : RV1 P σ G L rv v) : ResV P fn σ G L v := ResV.one hr h
theorem ResV.two {fn : Func} {r1 r2 : ResultVar} {v1 v2 : Value} (hr : fn.results = #[r1, r2]) (h1 : RV1 P σ G L r1 v1) (h2 : RV1 P σ G L r2 v2) : ResV P fn σ G L (.tuple #[v1, v2]) := by
 intro w tmps ht hs
 have h1 := rget_run h1 ht hs
 have h2 := rget_run h2 ht hs
 simp [results_rget, hr, h1, h2]
theorem ResV.three {fn : Func} {r1 r2 r3 : ResultVar} {v1 v2 v3 : Value} (hr : fn.results = #[r1, r2, r3]) (h1 : RV1 P σ G L r1 v1) (h2 : RV1 P σ G L r2 v2) (h3 : RV1 P σ G L r3 v3) : ResV P fn σ G L (.tuple #[v1, v2, v3]) := by
 intro w tmps ht hs
 have h1 := rget_run h1 ht hs
 have h2 := rget_run h2 ht hs
 have h3 := rget_run h3 ht hs
 simp [results_rget, hr, h1, h2, h3]
def retP (P : Program) (fn : Func) (R : Value -> Gh -> List Ch -> Prop) : Post
  | .ret, σ, G, L | .normal, σ, G, L => ∃ v L', ResV P fn σ G L v ∧ Cv L L' ∧ R v G L'
  | _, _, _, _ => False
def args0 : List Value -> Nat -> (Nat -> Value) -> Nat -> Value
  | [], _, σ => σ
  | v :: l, k, σ => upd (args0 l (k + 1) σ) k v
def noSlots : Nat -> Value := fun _ => undef
theorem args0_get : ∀ (l : List Value) (k t : Nat), args0 l k noSlots t = if k <= t then l.getD (t - k) undef else undef
 | [], k, t => by simp [args0, noSlots]
 | v :: l, k, t => by
  simp only [args0, upd]
  by_cases e : t = k
  ·subst e; rw [Nat.beq_refl]; simp
  ·have : Nat.beq t k = false := by cases hb : Nat.beq t k with
    | false => rfl
    | true => exact absurd (Nat.eq_of_beq_eq_true hb) e
   simp only [this, cond_false, args0_get l (k + 1) t]
   by_cases h : k <= t
   ·have e2 : t - k = (t - (k + 1)) + 1 := by omega
    rw [if_pos h, if_pos (by omega), e2]; simp
   ·rw [if_neg h, if_neg (by omega)]
theorem CallT.enter {f : FuncId} {fn : Func} {c : Code} {args : List Value} {R : Value -> Gh -> List Ch -> Prop} (hf : P.funcs[f]? = some fn) (hb : fn.body = some c) (hn : fn.ntmps = n) (hk : codeOk n c = true)
  (hl' : Nat.ble args.length n = true) (h : WP P n c (retP P fn R) (args0 args 0 noSlots) G L) : CallT P f args.toArray G L R := by
 have hl : args.length <= n := Nat.le_of_ble_eq_true hl'
 refine CallT.of fun w hs => ?_
 have hag : Ag n (args0 args 0 noSlots) { tmps := args.toArray ++ Array.replicate (fn.ntmps - args.toArray.size) undef, defers := [] } := by
  refine ⟨rfl, by simp [hn]; omega, fun t => ?_⟩
  rw [args0_get]
  simp only [Nat.zero_le, if_true, Nat.sub_zero, Array.getD_eq_getD_getElem?, List.getD_eq_getElem?_getD]
  by_cases ht : t < args.length
  ·simp [Array.getElem?_append, ht]
  ·rw [List.getElem?_eq_none (by omega)]
   simp only [Array.getElem?_append, List.size_toArray, ht, if_false, Array.getElem?_replicate]
   split <;> rfl
 refine calls_of_wp hf hb (wp_mono (h.run hk hag hs) ?_)
 rintro e a w' ⟨σ', G', L', h1, h2, h3⟩
 have fin : (∃ v L'', ResV P fn σ' G' L' v ∧ Cv L' L'' ∧ R v G' L'') -> a.defers = [] ∧ ∃ v, (results fn a.tmps).run P w' = .ok v w' ∧ ∃ v' G'' L'', Ending.returned v = .returned v' ∧ St G'' L'' w' ∧ R v' G'' L'' := by
  rintro ⟨v, L'', hv, hp, hr⟩
  exact ⟨h1.d, v, hv w' a.tmps h1.e h2, v, G', L'', rfl, h2.cv hp, hr⟩
 cases e with
 | ret => exact fin h3
 | normal => exact fin h3
 | _ => exact h3.elim
end
def Scal (P : Program) (t : TypeId) : Prop := ∀ w, (isAgg t).run P w = .ok false w ∧ (sizeOf t).run P w = .ok 1 w
def Aggr (P : Program) (t : TypeId) (s : Nat) : Prop := ∀ w, (isAgg t).run P w = .ok true w ∧ (sizeOf t).run P w = .ok s w
def foff (P : Program) (s f : Nat) : Option (Nat × Nat) :=
  match P.underlying s with
  | some (.struct fs) =>
    match fs[f]? with
    | some fd => (P.info? fd.type).map fun i => (fd.offset, i.size)
    | none => none
  | _ => none
def FOff (P : Program) (s f off : Nat) : Prop := ∃ m, foff P s f = some (off, m + 1)
theorem FOff.parts {P : Program} {s f off : Nat} (h : FOff P s f off) : ∃ fs fd i, P.underlying s = some (.struct fs) ∧ fs[f]? = some fd ∧ fd.offset = off ∧ P.info? fd.type = some i ∧ i.size ≠ 0 := by
 obtain ⟨m, h⟩ := h
 unfold foff at h
 split at h
 ·rename_i fs hu
  split at h
  ·rename_i fd hf
   simp only [Option.map_eq_some_iff, Prod.mk.injEq] at h
   obtain ⟨i, hi, h1, h2⟩ := h
   exact ⟨fs, fd, i, hu, hf, h1, hi, by omega⟩
  ·cases h
 ·cases h
def IdxA (P : Program) (t len s : Nat) : Prop := ∃ e, P.underlying t = some (.array len e) ∧ (P.info? e).map (·.size) = some s
def IdxS (P : Program) (t e s : Nat) : Prop := P.underlying t = some (.slice e) ∧ (P.info? e).map (·.size) = some s
theorem info_size {P : Program} {e s : Nat} (h : (P.info? e).map (·.size) = some s) : ∃ i, P.info? e = some i ∧ i.size = s := by
 simpa [Option.map_eq_some_iff] using h
def Hc (h : Hp) (b k : Nat) : Option Value :=
  match h b with
  | some (.cells c _ _) => c[k]?
  | _ => none
theorem Hc.le {h h' : Hp} (l : Hp.le h h') {b k : Nat} {v : Value} (e : Hc h b k = some v) : Hc h' b k = some v := by
 unfold Hc at *
 cases hb : h b with
 | none => simp [hb] at e
 | some o => rw [l b o hb]; rw [hb] at e; exact e
theorem cell_hc (w : World) (b k : Nat) : w.cell? ⟨b, k, none⟩ = Hc (wh w) b k := by
 unfold World.cell? Hc wh
 simp only
 cases w.heap[b]? with
 | none => rfl
 | some o => cases o <;> rfl
def Rd (G : Gh) (L : List Ch) (b k : Nat) (v : Value) : Prop := ∀ w, St G L w -> w.cell? ⟨b, k, none⟩ = some v
theorem Rd.g {G : Gh} {L : List Ch} {b k : Nat} {v : Value} (h : Hc G b k = some v) : Rd G L b k v := by
 intro w ⟨hp, s, l1, l2, d⟩
 rw [cell_hc]; exact Hc.le l1 h
theorem Rd.o {G : Gh} {L L' : List Ch} {c : Ch} {b k : Nat} {v : Value} (hx : Ex c L L') (hc : ∀ h, c h -> Hc h b k = some v) : Rd G L b k v := by
 intro w ⟨hp, s, l1, l2, d⟩
 obtain ⟨h1, h2, _, m1, _, cc, _⟩ := hx.sep s
 rw [cell_hc]; exact Hc.le (Hp.le_trans m1 l2) (hc h1 cc)
def blk (b : Nat) (t : TypeId) (cs : List Value) : Ch := fun h => h b = some (.cells cs.toArray t (0, 0))
class ExB (b : Nat) (L : List Ch) (t : outParam TypeId) (cs : outParam (List Value)) (L' : outParam (List Ch)) : Prop where
  ex : Ex (blk b t cs) L L'
instance (priority := low) (b : Nat) (x : Ch) (L : List Ch) (t : TypeId) (cs : List Value) (L' : List Ch) [h : ExB b L t cs L'] : ExB b (x :: L) t cs (x :: L') := ⟨.tail x h.ex⟩
instance (b : Nat) (L : List Ch) (t : TypeId) (cs : List Value) : ExB b (blk b t cs :: L) t cs L := ⟨.head _ L⟩
theorem Rd.blk {G : Gh} {L L' : List Ch} {b k : Nat} {t : TypeId} {cs : List Value} {v : Value} [hx : ExB b L t cs L'] (hv : cs[k]? = some v) : Rd G L b k v :=
 Rd.o hx.ex fun h hc => by unfold Hc; rw [hc]; simpa using hv
structure FT (α : Type) where
  sz : Nat
  enc : α -> List Value
  len : ∀ x, (enc x).length = sz
def FT.flat {α : Type} (T : FT α) (xs : List α) : List Value := xs.flatMap T.enc
theorem FT.flat_len {α : Type} (T : FT α) (xs : List α) : (T.flat xs).length = xs.length * T.sz := by
 unfold FT.flat
 induction xs with
 | nil => simp
 | cons x xs ih => simp only [List.flatMap_cons, List.length_append, ih, T.len, List.length_cons, Nat.add_mul, Nat.one_mul]; omega
theorem FT.flat_get {α : Type} (T : FT α) : ∀ {xs : List α} {i j : Nat} {x : α} {c : Value}, xs[i]? = some x -> (T.enc x)[j]? = some c -> (T.flat xs)[i * T.sz + j]? = some c
 | [], _, _, _, _, h, _ => by simp at h
 | y :: xs, 0, j, x, c, h, hc => by
  simp only [List.getElem?_cons_zero, Option.some.injEq] at h
  subst h
  simp only [FT.flat, List.flatMap_cons, Nat.zero_mul, Nat.zero_add]
  rw [List.getElem?_append_left (by have := (List.getElem?_eq_some_iff.1 hc).1; omega)]
  exact hc
 | y :: xs, i + 1, j, x, c, h, hc => by
  simp only [List.getElem?_cons_succ] at h
  have ih := FT.flat_get T h hc
  simp only [FT.flat, List.flatMap_cons] at ih ⊢
  have e : (i + 1) * T.sz + j = (T.enc y).length + (i * T.sz + j) := by rw [T.len, Nat.add_mul]; omega
  rw [e, List.getElem?_append_right (by omega), Nat.add_sub_cancel_left]
  exact ih
def sb : Value -> Nat
  | .slice (some a) _ _ => a.block
  | _ => 0
def so : Value -> Nat
  | .slice (some a) _ _ => a.off
  | _ => 0
def IsSl (v : Value) (n : Nat) : Prop := ∃ c, n <= c ∧ c <= maxLen ∧ ((∃ b k, v = .slice (some ⟨b, k, none⟩) n c) ∨ (∃ a, v = .slice a n c) ∧ n = 0)
theorem IsSl.one {v : Value} {n : Nat} (h : IsSl v n) : v.oneCell' = true := by
 obtain ⟨c, _, _, ⟨b, k, rfl⟩ | ⟨⟨_, rfl⟩, _⟩⟩ := h <;> rfl
theorem IsSl.some {v : Value} {n : Nat} (h : IsSl v n) (hn : 0 < n) : ∃ c, n <= c ∧ c <= maxLen ∧ v = .slice (some ⟨sb v, so v, none⟩) n c := by
 obtain ⟨c, h1, h2, ⟨b, k, rfl⟩ | ⟨⟨_, rfl⟩, h0⟩⟩ := h
 ·exact ⟨c, h1, h2, rfl⟩
 ·omega
structure SL {α : Type} (G : Gh) (T : FT α) (v : Value) (xs : List α) : Prop where
  sl : IsSl v xs.length
  get : ∀ j c, (T.flat xs)[j]? = Option.some c -> Hc G (sb v) (so v + j) = Option.some c
theorem SL.bound {α : Type} {G : Gh} {T : FT α} {v : Value} {xs : List α} (h : SL G T v xs) : xs.length <= 9223372036854775807 := by
 obtain ⟨c, h1, h2, _⟩ := h.sl
 simp only [maxLen] at h2; omega
def osl {α : Type} (e : TypeId) (T : FT α) (v : Value) (xs : List α) : Ch := fun h =>
  (v = .slice none 0 0 ∧ xs = []) ∨ ∃ b cap c, v = .slice (some ⟨b, 0, none⟩) xs.length cap ∧ h b = some (.cells c e (0, 0)) ∧ xs.length <= cap ∧ cap <= maxLen ∧ c.size = cap * T.sz ∧ c.toList.take (xs.length * T.sz) = T.flat xs
theorem osl.isSl {α : Type} {e : TypeId} {T : FT α} {v : Value} {xs : List α} {h : Hp} (hc : osl e T v xs h) : IsSl v xs.length := by
 rcases hc with ⟨rfl, rfl⟩ | ⟨b, cap, c, rfl, _, h1, h2, _⟩
 ·exact ⟨0, Nat.le_refl _, Nat.zero_le _, .inr ⟨⟨_, rfl⟩, rfl⟩⟩
 ·exact ⟨cap, h1, h2, .inl ⟨b, 0, rfl⟩⟩
theorem osl.get {α : Type} {e : TypeId} {T : FT α} {v : Value} {xs : List α} {h : Hp} (hc : osl e T v xs h) : ∀ j c, (T.flat xs)[j]? = some c -> Hc h (sb v) (so v + j) = some c := by
 intro j x hx
 rcases hc with ⟨rfl, rfl⟩ | ⟨b, cap, c, rfl, hb, h1, h2, h3, h4⟩
 ·simp [FT.flat] at hx
 ·simp only [sb, so, Hc, hb, Nat.zero_add]
  rw [<- h4] at hx
  rw [List.getElem?_take] at hx
  split at hx
  ·simpa using hx
  ·cases hx
class ExS (v : Value) (L : List Ch) (α : outParam Type) (e : outParam TypeId) (F : outParam (FT α)) (xs : outParam (List α)) (L' : outParam (List Ch)) : Prop where
  ex : Ex (osl e F v xs) L L'
instance (priority := low) (v : Value) (x : Ch) (L : List Ch) (α : Type) (e : TypeId) (F : FT α) (xs : List α) (L' : List Ch) [h : ExS v L α e F xs L'] : ExS v (x :: L) α e F xs (x :: L') := ⟨.tail x h.ex⟩
instance (v : Value) (L : List Ch) (α : Type) (e : TypeId) (F : FT α) (xs : List α) : ExS v (osl e F v xs :: L) α e F xs L := ⟨.head _ L⟩
def SlF (G : Gh) (L : List Ch) (v : Value) (n : Nat) : Prop := ∀ w, St G L w -> IsSl v n
theorem SlF.o {α : Type} {G : Gh} {L L' : List Ch} {e : TypeId} {T : FT α} {v : Value} {xs : List α} [hx : ExS v L α e T xs L'] : SlF G L v xs.length := by
 intro w ⟨hp, s, l1, l2, d⟩
 obtain ⟨h1, h2, _, m1, _, cc, _⟩ := hx.ex.sep s
 exact cc.isSl
theorem St.weak {G G' : Gh} {L L' : List Ch} {w : World} (h : St G' L' w) (p : Pick L L') (l : Gh.le G G') : St G L w := by
 obtain ⟨hp, s, l1, l2, d, ok⟩ := h
 refine ⟨hp, p.sep s, Hp.le_trans l.1 l1, l2, fun b => ?_, Gh.le_ok l ok⟩
 rcases d b with h | h
 ·exact .inl h
 ·right
  cases hg : G.f b with
  | none => rfl
  | some o => rw [l.1 b o hg] at h; cases h
def Rs {α : Type} (G : Gh) (L : List Ch) (T : FT α) (v : Value) (xs : List α) : Prop :=
  ∀ w, St G L w -> IsSl v xs.length ∧ ∀ j c, (T.flat xs)[j]? = some c -> w.cell? ⟨sb v, so v + j, none⟩ = some c
theorem Rs.g {α : Type} {G : Gh} {L : List Ch} {T : FT α} {v : Value} {xs : List α} (h : SL G T v xs) : Rs G L T v xs :=
 fun w hs => ⟨h.sl, fun j c hc => Rd.g (h.get j c hc) w hs⟩
theorem Rs.o {α : Type} {G : Gh} {L L' : List Ch} {e : TypeId} {T : FT α} {v : Value} {xs : List α} [hx : ExS v L α e T xs L'] : Rs G L T v xs :=
 fun w hs => ⟨SlF.o (hx := hx) w hs, fun j c hc => Rd.o (G := G) hx.ex (fun h ho => ho.get j c hc) w hs⟩
theorem Rs.up {α : Type} {G : Gh} {L L' : List Ch} {T : FT α} {v : Value} {xs : List α} (h : Rs G L T v xs) [p : PickC L L'] : Rs G L' T v xs :=
 fun w hs => h w (hs.pick p.pick)
theorem SlF.r {α : Type} {G : Gh} {L L' : List Ch} {T : FT α} {v : Value} {xs : List α} (h : Rs G L T v xs) [p : PickC L L'] : SlF G L' v xs.length := fun w hs => (h w (hs.pick p.pick)).1
def El {α : Type} (G : Gh) (L : List Ch) (T : FT α) (v : Value) (i : Nat) (x : α) : Prop := ∀ j c, (T.enc x)[j]? = some c -> Rd G L (sb v) (so v + i * T.sz + j) c
theorem El.o {α : Type} {G : Gh} {L L' : List Ch} {e : TypeId} {T : FT α} {v : Value} {xs : List α} {i : Nat} {x : α} [hx : ExS v L α e T xs L'] (hi : xs[i]? = some x) : El G L T v i x := by
 intro j c hc
 rw [Nat.add_assoc]
 exact Rd.o hx.ex fun h ho => ho.get _ _ (T.flat_get hi hc)
theorem El.r {α : Type} {G : Gh} {L L' : List Ch} {T : FT α} {v : Value} {xs : List α} {i : Nat} {x : α} (h : Rs G L T v xs) [p : PickC L L'] (hi : xs[i]? = some x) : El G L' T v i x := by
 intro j c hc w hs
 rw [Nat.add_assoc]
 exact (h w (hs.pick p.pick)).2 _ _ (T.flat_get hi hc)
theorem IsSl.bd {v : Value} {n : Nat} (h : IsSl v n) : n <= 9223372036854775807 := by
 obtain ⟨c, h1, h2, _⟩ := h; simp only [maxLen] at h2; omega
theorem CallT.bd {α : Type} {P : Program} {f : FuncId} {args : Array Value} {R : Value -> Gh -> List Ch -> Prop} {G : Gh} {L : List Ch} {T : FT α} {v : Value} {xs : List α} (h : Rs G L T v xs) (k : xs.length <= 9223372036854775807 -> CallT P f args G L R) : CallT P f args G L R :=
 CallT.of fun w hs => (k (h w hs).1.bd).run hs
theorem WP.bd {α : Type} {P : Program} {n : Nat} {c : Code} {Q : Post} {σ : Nat -> Value} {G : Gh} {L L' : List Ch} {T : FT α} {v : Value} {xs : List α} (h : Rs G L T v xs) [p : PickC L L'] (k : xs.length <= 9223372036854775807 -> WP P n c Q σ G L') : WP P n c Q σ G L' :=
 WP.of fun hk a w ha hs => (k (h w (hs.pick p.pick)).1.bd).run hk ha hs
theorem WP.bdo {α : Type} {P : Program} {n : Nat} {c : Code} {Q : Post} {σ : Nat -> Value} {G : Gh} {L L' : List Ch} {e : TypeId} {T : FT α} (v : Value) {xs : List α} [hx : ExS v L α e T xs L'] (k : xs.length <= 9223372036854775807 -> WP P n c Q σ G L) : WP P n c Q σ G L :=
 WP.bd (L := L) (Rs.o (hx := hx)) k
section
variable {P : Program} {n : Nat} {σ : Nat -> Value} {G : Gh} {L : List Ch} {o : Oper} {T T' t : TypeId} {x y z : Operand} {v u : Value}
theorem PV.move (ho : o.op = .move x) (hx : ev σ x = v) : PV P o σ G L v := by intro w _; simp [execOp, ho, hx]
theorem PV.asg (ho : o.op = .assign x) (hx : ev σ x = v) : PV P o σ G L v := by intro w _; simp [execOp, ho, hx]
theorem PV.mvI {k : IntKind} {a : Int} (ho : o.op = .move x ∨ o.op = .assign x) (hx : ev σ x = .int k a) : PV P o σ G L (.int k a) := by intro w _; rcases ho with ho | ho <;> simp [execOp, ho, hx]
theorem PV.mvB {p : Bool} (ho : o.op = .move x ∨ o.op = .assign x) (hx : ev σ x = .bool p) : PV P o σ G L (.bool p) := by intro w _; rcases ho with ho | ho <;> simp [execOp, ho, hx]
theorem RG.ml {P : Program} {n : Nat} {ops : Array Oper} {rest : List Oper} {Q : Post} {σ : Nat -> Value} {G : Gh} {L : List Ch} {o : Oper} {x : Operand} {k : IntKind} {a : Int} (h : (o.guard, o.op, ev σ x) = (none, .move x, .int k a)) (kk : RG P n ops rest Q (updo σ o.dst (.int k a)) G L) : RG P n ops (o :: rest) Q σ G L := by
  simp only [Prod.mk.injEq] at h
  exact RG.pv h.1 (PV.mvI (.inl h.2.1) h.2.2) kk
theorem RG.mr {P : Program} {n : Nat} {ops : Array Oper} {rest : List Oper} {Q : Post} {σ : Nat -> Value} {G : Gh} {L : List Ch} {o : Oper} {x : Operand} {k : IntKind} {a : Int} (h : (o.guard, o.op, ev σ x) = (none, .assign x, .int k a)) (kk : RG P n ops rest Q (updo σ o.dst (.int k a)) G L) : RG P n ops (o :: rest) Q σ G L := by
  simp only [Prod.mk.injEq] at h
  exact RG.pv h.1 (PV.mvI (.inr h.2.1) h.2.2) kk
theorem RG.bl {P : Program} {n : Nat} {ops : Array Oper} {rest : List Oper} {Q : Post} {σ : Nat -> Value} {G : Gh} {L : List Ch} {o : Oper} {x : Operand} {p : Bool} (h : (o.guard, o.op, ev σ x) = (none, .move x, .bool p)) (kk : RG P n ops rest Q (updo σ o.dst (.bool p)) G L) : RG P n ops (o :: rest) Q σ G L := by
  simp only [Prod.mk.injEq] at h
  exact RG.pv h.1 (PV.mvB (.inl h.2.1) h.2.2) kk
theorem RG.br {P : Program} {n : Nat} {ops : Array Oper} {rest : List Oper} {Q : Post} {σ : Nat -> Value} {G : Gh} {L : List Ch} {o : Oper} {x : Operand} {p : Bool} (h : (o.guard, o.op, ev σ x) = (none, .assign x, .bool p)) (kk : RG P n ops rest Q (updo σ o.dst (.bool p)) G L) : RG P n ops (o :: rest) Q σ G L := by
  simp only [Prod.mk.injEq] at h
  exact RG.pv h.1 (PV.mvB (.inr h.2.1) h.2.2) kk
theorem PV.mvS {s : ByteArray} (ho : o.op = .move x ∨ o.op = .assign x) (hx : ev σ x = .string s) : PV P o σ G L (.string s) := by intro w _; rcases ho with ho | ho <;> simp [execOp, ho, hx]
theorem PV.mvP {b k : Nat} (ho : o.op = .move x ∨ o.op = .assign x) (hx : ev σ x = .pointer (some ⟨b, k, none⟩)) : PV P o σ G L (.pointer (some ⟨b, k, none⟩)) := by intro w _; rcases ho with ho | ho <;> simp [execOp, ho, hx]
theorem PV.pick {p : Bool} (ho : o.op = .pick x y z) (hx : ev σ x = .bool p) (hv : (bif p then ev σ y else ev σ z) = v) : PV P o σ G L v := by
 intro w _; subst hv; cases p <;> simp [execOp, ho, hx, asBool]
theorem PV.pickT {p : Bool} (ho : o.op = .pick x y z) (hx : ev σ x = .bool p) (h : p = true) (hv : ev σ y = v) : PV P o σ G L v := PV.pick ho hx (by subst h; exact hv)
theorem PV.pickE {p : Bool} (ho : o.op = .pick x y z) (hx : ev σ x = .bool p) (h : p = false) (hv : ev σ z = v) : PV P o σ G L v := PV.pick ho hx (by subst h; exact hv)
theorem PV.pickA {p q : Bool} (ho : o.op = .pick x y z) (hx : ev σ x = .bool p) (hy : p = true -> ev σ y = .bool q) (hz : ev σ z = .bool false) : PV P o σ G L (.bool (p && q)) :=
 PV.pick ho hx (by cases p with | true => exact hy rfl | false => exact hz)
theorem PV.pickO {p q : Bool} (ho : o.op = .pick x y z) (hx : ev σ x = .bool p) (hy : ev σ y = .bool true) (hz : p = false -> ev σ z = .bool q) : PV P o σ G L (.bool (p || q)) :=
 PV.pick ho hx (by cases p with | true => exact hy | false => exact hz rfl)
theorem i64w {a : Int} (h : -9223372036854775808 <= a ∧ a <= 9223372036854775807) : IntKind.i64.wrap a = a := IntWalk.i64_in _ h
section
variable {k : IntKind} {a b : Int}
theorem PV.addW (ho : o.op = .binOp .add T x y T') (hx : ev σ x = .int k a) (hy : ev σ y = .int k b) : PV P o σ G L (.int k (k.wrap (a + b))) := by
 intro w _; simp [execOp, ho, hx, hy, eqGuard, binOp, Op.intArith]
theorem PV.subW (ho : o.op = .binOp .sub T x y T') (hx : ev σ x = .int k a) (hy : ev σ y = .int k b) : PV P o σ G L (.int k (k.wrap (a - b))) := by
 intro w _; simp [execOp, ho, hx, hy, eqGuard, binOp, Op.intArith]
theorem PV.mulW (ho : o.op = .binOp .mul T x y T') (hx : ev σ x = .int k a) (hy : ev σ y = .int k b) : PV P o σ G L (.int k (k.wrap (a * b))) := by
 intro w _; simp [execOp, ho, hx, hy, eqGuard, binOp, Op.intArith]
theorem PV.add (ho : o.op = .binOp .add T x y T') (hx : ev σ x = .int .i64 a) (hy : ev σ y = .int .i64 b) (hr : -9223372036854775808 <= a + b ∧ a + b <= 9223372036854775807) : PV P o σ G L (.int .i64 (a + b)) := by
 have h := PV.addW (P := P) (G := G) (L := L) ho hx hy; rwa [i64w hr] at h
theorem PV.sub (ho : o.op = .binOp .sub T x y T') (hx : ev σ x = .int .i64 a) (hy : ev σ y = .int .i64 b) (hr : -9223372036854775808 <= a - b ∧ a - b <= 9223372036854775807) : PV P o σ G L (.int .i64 (a - b)) := by
 have h := PV.subW (P := P) (G := G) (L := L) ho hx hy; rwa [i64w hr] at h
theorem PV.mul (ho : o.op = .binOp .mul T x y T') (hx : ev σ x = .int .i64 a) (hy : ev σ y = .int .i64 b) (hr : -9223372036854775808 <= a * b ∧ a * b <= 9223372036854775807) : PV P o σ G L (.int .i64 (a * b)) := by
 have h := PV.mulW (P := P) (G := G) (L := L) ho hx hy; rwa [i64w hr] at h
theorem PV.lss (ho : o.op = .binOp .lss T x y T') (hx : ev σ x = .int k a) (hy : ev σ y = .int k b) : PV P o σ G L (.bool (decide (a < b))) := by
 intro w _; simp [execOp, ho, hx, hy, eqGuard, binOp, Op.intCmp]
theorem PV.leq (ho : o.op = .binOp .leq T x y T') (hx : ev σ x = .int k a) (hy : ev σ y = .int k b) : PV P o σ G L (.bool (decide (a <= b))) := by
 intro w _; simp [execOp, ho, hx, hy, eqGuard, binOp, Op.intCmp]
theorem PV.gtr (ho : o.op = .binOp .gtr T x y T') (hx : ev σ x = .int k a) (hy : ev σ y = .int k b) : PV P o σ G L (.bool (decide (b < a))) := by
 intro w _; simp [execOp, ho, hx, hy, eqGuard, binOp, Op.intCmp]
theorem PV.geq (ho : o.op = .binOp .geq T x y T') (hx : ev σ x = .int k a) (hy : ev σ y = .int k b) : PV P o σ G L (.bool (decide (b <= a))) := by
 intro w _; simp [execOp, ho, hx, hy, eqGuard, binOp, Op.intCmp]
theorem PV.eql (ho : o.op = .binOp .eql T x y T') (hx : ev σ x = .int k a) (hy : ev σ y = .int k b) : PV P o σ G L (.bool (decide (a = b))) := by
 intro w _; simp [execOp, ho, hx, hy, eqGuard, binOp, Op.intCmp]; rfl
theorem PV.neq (ho : o.op = .binOp .neq T x y T') (hx : ev σ x = .int k a) (hy : ev σ y = .int k b) : PV P o σ G L (.bool (!decide (a = b))) := by
 intro w _; simp [execOp, ho, hx, hy, eqGuard, binOp, Op.intCmp, bne]; rfl
theorem PV.quo (ho : o.op = .binOp .quo T x y T') (hx : ev σ x = .int .i64 a) (hy : ev σ y = .int .i64 b) (h0 : 0 <= a) (h1 : 0 < b) (hr : a <= 9223372036854775807) : PV P o σ G L (.int .i64 (a / b)) := by
 intro w _
 have e : a.tdiv b = a / b := Int.tdiv_eq_ediv_of_nonneg h0
 have hd : a / b <= a := Int.ediv_le_self _ h0
 have hd0 : 0 <= a / b := Int.ediv_nonneg h0 (by omega)
 simp [execOp, ho, hx, hy, eqGuard, binOp, Op.intDiv, e, i64w (a := a / b) ⟨by omega, by omega⟩, show ¬ b = 0 by omega]
theorem PV.rem (ho : o.op = .binOp .rem T x y T') (hx : ev σ x = .int .i64 a) (hy : ev σ y = .int .i64 b) (h0 : 0 <= a) (h1 : 0 < b) (hr : b <= 9223372036854775807) : PV P o σ G L (.int .i64 (a % b)) := by
 intro w _
 have e : a.tmod b = a % b := Int.tmod_eq_emod_of_nonneg h0
 have hd0 : 0 <= a % b := Int.emod_nonneg _ (by omega)
 have hd : a % b < b := Int.emod_lt_of_pos _ h1
 simp [execOp, ho, hx, hy, eqGuard, binOp, Op.intDiv, e, show ¬ b = 0 by omega]
theorem PV.neg (ho : o.op = .unOp .neg T x) (hx : ev σ x = .int .i64 a) (hr : -9223372036854775808 <= -a ∧ -a <= 9223372036854775807) : PV P o σ G L (.int .i64 (-a)) := by
 intro w _; simp [execOp, ho, hx, Op.unary, Op.intArith, i64w (a := -a) hr]
theorem PV.conv (ho : o.op = .convert T T' x) {k' : IntKind} (h1 : ∃ d, P.underlying T = some d) (h2 : P.underlying T' = some (.int k')) (hx : ev σ x = .int k a) (hr : k'.wrap a = b) : PV P o σ G L (.int k' b) := by
 obtain ⟨d, h1⟩ := h1
 intro w _; subst hr; cases d <;> simp [execOp, ho, hx, convert, run_underlying h1, run_underlying h2, Conv.intToInt]
theorem PV.max2 (ho : o.op = .call { callee := .builtin .max, args := #[x, y], argTypes := #[T, T'] }) (hx : ev σ x = .int k a) (hy : ev σ y = .int k b) : PV P o σ G L (.int k (max a b)) := by
 intro w _
 have e : (if b > a then b else a) = max a b := by simp only [Int.max_def]; split <;> split <;> omega
 simp [execOp, ho, hx, hy, resolve, invoke, builtin, Builtin.max_, Builtin.max2]
 exact e
theorem PV.min2 (ho : o.op = .call { callee := .builtin .min, args := #[x, y], argTypes := #[T, T'] }) (hx : ev σ x = .int k a) (hy : ev σ y = .int k b) : PV P o σ G L (.int k (min a b)) := by
 intro w _
 have e : (if b < a then b else a) = min a b := by simp only [Int.min_def]; split <;> split <;> omega
 simp [execOp, ho, hx, hy, resolve, invoke, builtin, Builtin.min_, Builtin.min2]
 exact e
end
theorem PV.not {p : Bool} (ho : o.op = .unOp .not T x) (hx : ev σ x = .bool p) : PV P o σ G L (.bool (!p)) := by
 intro w _; simp [execOp, ho, hx, Op.unary]
theorem PV.nilc {a : Addr} (ho : o.op = .nilCheck x) (hx : ev σ x = .pointer (some a)) : PV P o σ G L (.pointer (some a)) := by
 intro w _; simp [execOp, ho, hx]
theorem add_none (b k m : Nat) : Addr.add ⟨b, k, none⟩ m = ⟨b, k + m, none⟩ := by
 unfold Addr.add; split <;> simp_all
theorem PV.field {s f off b k : Nat} (ho : o.op = .fieldAddr s x f) (hF : FOff P s f off) (hx : ev σ x = .pointer (some ⟨b, k, none⟩)) : PV P o σ G L (.pointer (some ⟨b, k + off, none⟩)) := by
 obtain ⟨fs, fd, i, h1, h2, rfl, h3, h4⟩ := hF.parts
 intro w _
 simp [execOp, ho, hx, Instr.fieldAt, run_underlying h1, h2, Instr.sureAddr, fieldPlace, sizeOf, typeInfo, h3, h4, add_none]
theorem PV.idxA {len s b k : Nat} {kd : IntKind} {i : Int} {j : Nat} (ho : o.op = .indexAddr t x y) (hI : IdxA P t len s) (hx : ev σ x = .pointer (some ⟨b, k, none⟩)) (hy : ev σ y = .int kd i) (hj : i = (j : Int)) (hl : j < len) :
  PV P o σ G L (.pointer (some ⟨b, k + j * s, none⟩)) := by
 obtain ⟨e, h1, h2⟩ := hI
 obtain ⟨inf, h3, rfl⟩ := info_size h2
 clear h2
 intro w _
 subst hj
 have hb : (0 : Int) <= (j : Int) ∧ (j : Int) < (len : Int) := ⟨by omega, by omega⟩
 simp [execOp, ho, hx, hy, Instr.indexAt, asIntOf, run_underlying h1, Instr.sureAddr, hb, sizeOf, typeInfo, h3, add_none, hl]
theorem PV.idxS {s m : Nat} {kd : IntKind} {i : Int} {j : Nat} (ho : o.op = .indexAddr t x y) {e : TypeId} (hI : IdxS P t e s) (hx : ev σ x = v) (hs : SlF G L v m) (hy : ev σ y = .int kd i) (hj : i = (j : Int)) (hl : j < m) :
  PV P o σ G L (.pointer (some ⟨sb v, so v + j * s, none⟩)) := by
 obtain ⟨h1, h2⟩ := hI
 obtain ⟨inf, h3, rfl⟩ := info_size h2
 clear h2
 intro w hw
 subst hj
 obtain ⟨c, hc1, hc2, hv⟩ := (hs w hw).some (by omega)
 have hx' : ev σ x = .slice (some ⟨sb v, so v, none⟩) m c := hx.trans hv
 generalize sb v = b at *
 generalize so v = k at *
 simp [execOp, ho, hx', hy, Instr.indexAt, asIntOf, run_underlying h1, sizeOf, typeInfo, h3, add_none, hl]
theorem PV.load1 {b k : Nat} (ho : o.op = .load t x) (hS : Scal P t) (hx : ev σ x = .pointer (some ⟨b, k, none⟩)) (hr : Rd G L b k v) : PV P o σ G L v := by
 intro w hw
 simp [execOp, ho, hx, Instr.loadAt, Instr.sureAddr, loadVar, (hS w).1, hr w hw]
theorem loadCells_run : ∀ (m b k i : Nat) (acc : Array Value) (vs : List Value) (w : World), vs.length = m -> (∀ j c, vs[j]? = some c -> w.cell? ⟨b, k + (i + j), none⟩ = some c) ->
  (loadCellsFrom ⟨b, k, none⟩ i m acc).run P w = .ok (acc ++ vs.toArray) w
 | 0, b, k, i, acc, vs, w, hl, _ => by
  obtain rfl := List.eq_nil_of_length_eq_zero hl
  simp [loadCellsFrom]
 | m + 1, b, k, i, acc, [], w, hl, _ => by simp at hl
 | m + 1, b, k, i, acc, c :: vs, w, hl, h => by
  have h0 := h 0 c (by simp)
  have ih := loadCells_run m b k (i + 1) (acc.push c) vs w (by simpa using hl) (fun j c' hc => by
   have := h (j + 1) c' (by simpa using hc)
   rwa [show i + (j + 1) = i + 1 + j by omega] at this)
  simp only [loadCellsFrom, Sem.run_bind, run_load, add_none]
  rw [Nat.add_zero] at h0
  simp only [h0, Result.andThen_ok, ih]
  simp
theorem PV.loadA {b k s : Nat} {vs : List Value} (ho : o.op = .load t x) (hA : Aggr P t s) (hx : ev σ x = .pointer (some ⟨b, k, none⟩)) (hl : vs.length = s) (hr : ∀ j c, vs[j]? = some c -> Rd G L b (k + j) c) :
  PV P o σ G L (.agg vs.toArray) := by
 intro w hw
 have h := loadCells_run (P := P) s b k 0 #[] vs w hl (fun j c hc => by rw [Nat.zero_add]; exact hr j c hc w hw)
 simp only [Array.empty_append] at h
 simp [execOp, ho, hx, Instr.loadAt, Instr.sureAddr, loadVar, (hA w).1, (hA w).2, loadCells, h]
theorem PV.loadB {b k s : Nat} {e : TypeId} {cs vs : List Value} {L' : List Ch} (ho : o.op = .load t x) (hA : Aggr P t s) (hx : ev σ x = .pointer (some ⟨b, k, none⟩)) [hX : ExB b L e cs L'] (hv : (cs.drop k).take s = vs) (hl : vs.length = s) :
  PV P o σ G L (.agg vs.toArray) := by
 subst hv
 refine PV.loadA ho hA hx hl fun j c hc => Rd.blk (L' := L') ?_
 rw [List.getElem?_take] at hc
 split at hc
 ·rwa [List.getElem?_drop] at hc
 ·cases hc
theorem PV.loadE {α : Type} {F : FT α} {s : Nat} {i : Nat} {e : α} (ho : o.op = .load t x) (hA : Aggr P t F.sz) (hx : ev σ x = .pointer (some ⟨sb v, so v + i * s, none⟩)) (hs : s = F.sz) (hE : El G L F v i e) :
  PV P o σ G L (.agg (F.enc e).toArray) := by
 subst hs; exact PV.loadA ho hA hx (F.len e) hE
theorem PV.loadE1 {α : Type} {F : FT α} {s : Nat} {i : Nat} {e : α} {c : Value} (ho : o.op = .load t x) (hS : Scal P t) (hx : ev σ x = .pointer (some ⟨sb v, so v + i * s, none⟩)) (hs : s = F.sz) (hE : El G L F v i e) (hc : (F.enc e)[0]? = some c) :
  PV P o σ G L c := by
 subst hs; exact PV.load1 ho hS hx (hE 0 c hc)
theorem PV.loadF {α : Type} {F : FT α} {s : Nat} {i j : Nat} {e : α} {c : Value} (ho : o.op = .load t x) (hS : Scal P t) (hx : ev σ x = .pointer (some ⟨sb v, so v + i * s + j, none⟩)) (hs : s = F.sz) (hE : El G L F v i e) (hc : (F.enc e)[j]? = some c) :
  PV P o σ G L c := by
 subst hs; exact PV.load1 ho hS hx (hE j c hc)
theorem PV.loadEP {α : Type} {F : FT α} {s s' : Nat} {i j : Nat} {e : α} {vs : List Value} (ho : o.op = .load t x) (hA : Aggr P t s') (hx : ev σ x = .pointer (some ⟨sb v, so v + i * s + j, none⟩)) (hs : s = F.sz) (hE : El G L F v i e) (hv : ((F.enc e).drop j).take s' = vs) (hl : vs.length = s' := by rfl) :
  PV P o σ G L (.agg vs.toArray) := by
 subst hs hv
 refine PV.loadA ho hA hx hl fun m c hc => ?_
 rw [List.getElem?_take] at hc
 split at hc
 ·rw [List.getElem?_drop] at hc
  have := hE (j + m) c hc
  rwa [<- Nat.add_assoc] at this
 ·cases hc
theorem PV.len {m : Nat} (ho : o.op = .call { callee := .builtin .len, args := #[x], argTypes := #[T] }) {e : TypeId} (hT : P.underlying T = some (.slice e)) (hx : ev σ x = v) (hs : SlF G L v m) : PV P o σ G L (.int .i64 m) := by
 intro w hw
 obtain ⟨c, _, _, h⟩ := hs w hw
 have : ∃ a, v = .slice a m c := by rcases h with ⟨b, k, h⟩ | ⟨⟨a, h⟩, _⟩ <;> exact ⟨_, h⟩
 obtain ⟨a, rfl⟩ := this
 simp [execOp, ho, hx, resolve, invoke, builtin, Builtin.len_, run_underlying hT, goInt]
theorem PV.lenS {s : ByteArray} (ho : o.op = .call { callee := .builtin .len, args := #[x], argTypes := #[T] }) (hT : P.underlying T = some .string) (hx : ev σ x = .string s) : PV P o σ G L (.int .i64 s.size) := by
 intro w hw
 simp [execOp, ho, hx, resolve, invoke, builtin, Builtin.len_, run_underlying hT, goInt]
theorem PV.idxStr {s : ByteArray} {kd : IntKind} {i : Int} {j : Nat} {c : UInt8} (ho : o.op = .index T x y) (hT : P.underlying T = some .string) (hx : ev σ x = .string s) (hy : ev σ y = .int kd i) (hj : i = (j : Int)) (hc : s[j]? = some c) : PV P o σ G L (.int .u8 c.toNat) := by
 intro w hw
 subst hj
 simp [execOp, ho, hx, hy, Instr.index, asIntOf, run_underlying hT, hc]
theorem PV.eqlB {p q : Bool} (ho : o.op = .binOp .eql T x y T') (hT : P.underlying T = some .bool) (hx : ev σ x = .bool p) (hy : ev σ y = .bool q) : PV P o σ G L (.bool (p == q)) := by
 intro w hw
 simp [execOp, ho, hx, hy, eqGuard, run_eql_bool w T p q hT]
theorem PV.neqB {p q : Bool} (ho : o.op = .binOp .neq T x y T') (hT : P.underlying T = some .bool) (hx : ev σ x = .bool p) (hy : ev σ y = .bool q) : PV P o σ G L (.bool (p != q)) := by
 intro w hw
 have h : (binOp .neq T (.bool p) (.bool q)).run P w = .ok (.bool (p != q)) w := by
  have h1 := run_eql_bool (P := P) w T p q hT
  have e : binOp .neq T (.bool p) (.bool q) = (do pure (.bool (!(<- Op.equal T (.bool p) (.bool q)))) : Sem Value) := rfl
  have e' : binOp .eql T (.bool p) (.bool q) = (do pure (.bool (<- Op.equal T (.bool p) (.bool q))) : Sem Value) := rfl
  rw [e'] at h1
  rw [e]
  simp only [Sem.run_bind, Sem.run_pure] at h1 ⊢
  cases hr : (Op.equal T (.bool p) (.bool q)).run P w with
  | ok b w' =>
   rw [hr] at h1
   simp only [Result.andThen_ok, Result.ok.injEq, Value.bool.injEq] at h1
   obtain ⟨rfl, rfl⟩ := h1
   rfl
  | halt x w' => rw [hr] at h1; simp at h1
 simp [execOp, ho, hx, hy, eqGuard, h]
theorem bytes_beq (a b : ByteArray) : (a.toList == b.toList) = decide (a = b) := by
 rw [ByteArray.toList_eq, ByteArray.toList_eq]
 obtain ⟨⟨x⟩⟩ := a
 obtain ⟨⟨y⟩⟩ := b
 by_cases h : x = y
 ·subst h; simp
 ·simp [h]
theorem PV.eqlS {p q : ByteArray} (ho : o.op = .binOp .eql T x y T') (hx : ev σ x = .string p) (hy : ev σ y = .string q) : PV P o σ G L (.bool (decide (p = q))) := by
 intro w hw
 simp [execOp, ho, hx, hy, eqGuard, binOp_string_eql, bytes_beq]
theorem PV.addS {p q : ByteArray} (ho : o.op = .binOp .add T x y T') (hx : ev σ x = .string p) (hy : ev σ y = .string q) (hl : p.size + q.size <= 9223372036854775807) : PV P o σ G L (.string (p ++ q)) := by
 intro w hw
 have : ¬ ((p.size + q.size : Nat) : Int) > IntKind.i64.max := by
  simp only [show IntKind.i64.max = 9223372036854775807 from rfl]; omega
 simp only [execOp, ho, hx, hy, eqGuard, binOp_string_add, Op.stringOp, this, if_false]
 simp
theorem getE {α : Type} {xs : List α} {i : Nat} (h : i < xs.length) : xs[i]? = some xs[i] := List.getElem?_eq_getElem h
theorem set_pre {α : Type} {xs ys : List α} {i : Nat} {x : α} (h : ∀ j, j < i -> ys[j]? = xs[j]?) (hx : xs[i]? = some x) (hl : ys.length = xs.length) : ∀ j, j < i + 1 -> (ys.set i x)[j]? = xs[j]? := by
 intro j hj
 by_cases e : j = i
 ·subst e
  have := (List.getElem?_eq_some_iff.1 hx).1
  rw [hx, List.getElem?_set]; simp [hl, this]
 ·rw [List.getElem?_set, if_neg (Ne.symm e)]; exact h j (by omega)
theorem pre_eq {α : Type} {xs ys : List α} {i : Nat} (h : ∀ j, j < i -> ys[j]? = xs[j]?) (hl : ys.length = xs.length) (hi : xs.length <= i) : ys = xs := by
 apply List.ext_getElem?
 intro j
 by_cases hj : j < i
 ·exact h j hj
 ·rw [List.getElem?_eq_none (by omega), List.getElem?_eq_none (by omega)]
@[irreducible] def gd {α : Type} [Inhabited α] (xs : List α) (i : Nat) : α := xs[i]?.getD default
theorem gd_eq {α : Type} [Inhabited α] {xs : List α} {i : Nat} (h : i < xs.length) : gd xs i = xs[i] := by simp [gd, h]
theorem getG {α : Type} [Inhabited α] {xs : List α} {i : Nat} (h : i < xs.length) : xs[i]? = some (gd xs i) := by simp [gd, h]
@[irreducible] def bt (s : ByteArray) (i : Nat) : UInt8 := s[i]?.getD 0
theorem getBG {s : ByteArray} {i : Nat} (h : i < s.size) : s[i]? = some (bt s i) := by simp [bt, h]
theorem PV.ext {j : Nat} {vs : Array Value} (ho : o.op = .extract x j) (hx : ev σ x = .tuple vs) (hv : vs[j]? = some v) : PV P o σ G L v := by
 intro w hw
 simp [execOp, ho, hx, Instr.extract, hv]
end
theorem wh_push (w : World) (o : Obj) (b : Nat) : wh { w with heap := w.heap.push o } b = if b = w.heap.size then some o else wh w b := by
 simp only [wh, Array.getElem?_push]
theorem wh_none {w : World} {b : Nat} (h : w.heap.size <= b) : wh w b = none := by simp [wh, h]
theorem St.new {G : Gh} {L : List Ch} {w w' : World} (h : St G L w) (hq : Quiet w w') {o : Obj} (hw : ∀ b, wh w' b = if b = w.heap.size then some o else wh w b) {c : Ch} (hc : ∀ h : Hp, h w.heap.size = some o -> c h) : St G (c :: L) w' := by
 obtain ⟨hp, s, l1, l2, d, ok⟩ := h
 have up : Hp.le (wh w) (wh w') := fun b x hb => by
  rw [hw, if_neg]
  ·exact hb
  ·intro e; rw [wh_none (Nat.le_of_eq e.symm)] at hb; cases hb
 have hn : hp w.heap.size = none := by
  cases hh : hp w.heap.size with
  | none => rfl
  | some x => have := l2 _ _ hh; rw [wh_none (Nat.le_refl _)] at this; cases this
 have gn : G.f w.heap.size = none := by
  cases hh : G.f w.heap.size with
  | none => rfl
  | some x => have := l1 _ _ hh; rw [wh_none (Nat.le_refl _)] at this; cases this
 refine ⟨fun b => if b = w.heap.size then some o else hp b, ⟨fun b => if b = w.heap.size then some o else none, hp, ?_, ?_, ?_, hc _ (by simp), s⟩, Hp.le_trans l1 up, ?_, ?_, Gh.ok_of ok hq⟩
 ·intro b; by_cases e : b = w.heap.size
  ·right; rw [e]; exact hn
  ·left; simp [e]
 ·intro b x hb; by_cases e : b = w.heap.size <;> simp_all
 ·intro b x hb; by_cases e : b = w.heap.size
  ·rw [e, hn] at hb; cases hb
  ·simp [e, hb]
 ·intro b x hb
  by_cases e : b = w.heap.size
  ·subst e; rw [hw]; simpa using hb
  ·simp only [e, if_false] at hb; exact up b x (l2 b x hb)
 ·intro b; by_cases e : b = w.heap.size
  ·right; rw [e]; exact gn
  ·rcases d b with h | h
   ·left; simp [e, h]
   ·exact .inr h
theorem St.set {G : Gh} {L L' : List Ch} {w w' : World} {c c' : Ch} (h : St G L w) (hq : Quiet w w') (hx : Ex c L L') {b : Nat} (hb : ∀ h, c h -> (h b).isSome = true) {o : Obj} (hw : ∀ x, wh w' x = if x = b then some o else wh w x)
   (hc : ∀ h : Hp, c h -> Hp.le h (wh w) -> c' (fun x => if x = b then some o else h x)) : St G (c' :: L') w' := by
 obtain ⟨hp, s, l1, l2, d, ok⟩ := h
 obtain ⟨h1, h2, d12, m1, m2, hc1, s2⟩ := hx.sep s
 have b1 := hb h1 hc1
 have b2 : h2 b = none := by rcases d12 b with h | h
                             · simp [h] at b1
                             · exact h
 have bg : G.f b = none := by
   rcases d b with h | h
   · obtain ⟨x, hx⟩ := Option.isSome_iff_exists.1 b1
     rw [m1 _ _ hx] at h; cases h
   · exact h
 refine ⟨fun x => if x = b then some o else hp x, ⟨fun x => if x = b then some o else h1 x, h2, ?_, ?_, ?_, hc h1 hc1 (Hp.le_trans m1 l2), s2⟩, ?_, ?_, ?_, Gh.ok_of ok hq⟩
 · intro x; by_cases e : x = b
   · right; rw [e]; exact b2
   · rcases d12 x with h | h
     · left; simp [e, h]
     · exact .inr h
 · intro x y hy; by_cases e : x = b
   · simp_all
   · simp only [e, if_false] at hy ⊢; exact m1 x y hy
 · intro x y hy; by_cases e : x = b
   · rw [e, b2] at hy; cases hy
   · simp only [e, if_false]; exact m2 x y hy
 · intro x y hy
   rw [hw, if_neg]
   · exact l1 x y hy
   · rintro rfl; rw [bg] at hy; cases hy
 · intro x y hy
   rw [hw]
   by_cases e : x = b
   · simp_all
   · simp only [e, if_false] at hy ⊢; exact l2 x y hy
 · intro x; by_cases e : x = b
   · right; rw [e]; exact bg
   · rcases d x with h | h
     · left; simp [e, h]
     · exact .inr h
section
variable {P : Program} {n : Nat} {σ : Nat -> Value} {G : Gh} {L : List Ch} {o : Oper} {T T' t : TypeId} {x y z : Operand} {v u : Value} {K : (Nat -> Value) -> Gh -> List Ch -> Prop}
theorem OT.ofRun (h : ∀ w, St G L w -> ∃ v G' L' w', (execOp (ev σ) o).run P w = .ok (.value v) w' ∧ St G' L' w' ∧ K (updo σ o.dst v) G' L') : OT P n o σ G L K := by
 intro hk a w hag hs Q'
 obtain ⟨v, G', L', w', h1, h2, h3⟩ := h w hs
 unfold Oper.wp
 rw [hag.eval, h1]
 exact ⟨_, _, _, hag.put hk v, h2, h3⟩
theorem OT.ofRunU (h : ∀ w, St G L w -> ∃ G' L' w', (execOp (ev σ) o).run P w = .ok .skip w' ∧ St G' L' w' ∧ K (updo σ o.dst undef) G' L') : OT P n o σ G L K := by
 intro hk a w hag hs Q'
 obtain ⟨G', L', w', h1, h2, h3⟩ := h w hs
 unfold Oper.wp
 rw [hag.eval, h1]
 exact ⟨_, _, _, hag.put hk undef, h2, h3⟩
def ZeroT (P : Program) (t : TypeId) (z : List Value) : Prop := ∃ v, (∀ w, (zeroValue t).run P w = .ok v w) ∧ v.cells.toList = z
theorem OT.alloc {e : TypeId} {cs : List Value} (ho : o.op = .alloc e) (hz : ZeroT P e cs) (k : ∀ b, K (updo σ o.dst (.pointer (some ⟨b, 0, none⟩))) G (blk b e cs :: L)) : OT P n o σ G L K := by
 obtain ⟨v, hz, rfl⟩ := hz
 refine OT.ofRun fun w hs => ⟨_, G, _, { w with heap := w.heap.push (.cells v.cells e (0, 0)) }, ?_, hs.new (by exact ⟨rfl, rfl, rfl, Nat.le_refl _⟩) (wh_push w _) (c := blk w.heap.size e v.cells.toList) (fun h hb => ?_), k w.heap.size⟩
 ·simp [execOp, ho, Instr.alloc, hz, newVar, newRow]
 ·simpa [blk] using hb
theorem OT.box {e : TypeId} {cs : List Value} (ho : o.op = .box e x) (hx : ev σ x = v) (hc : v.cells.toList = cs) (k : ∀ b, K (updo σ o.dst (.pointer (some ⟨b, 0, none⟩))) G (blk b e cs :: L)) : OT P n o σ G L K := by
 subst hc
 refine OT.ofRun fun w hs => ⟨_, G, _, { w with heap := w.heap.push (.cells v.cells e (0, 0)) }, ?_, hs.new (by exact ⟨rfl, rfl, rfl, Nat.le_refl _⟩) (wh_push w _) (c := blk w.heap.size e v.cells.toList) (fun h hb => ?_), k w.heap.size⟩
 ·simp [execOp, ho, Instr.box, hx, newVar, newRow]
 ·simpa [blk] using hb
def splice (cs : List Value) (k : Nat) : List Value -> List Value
  | [] => cs
  | v :: vs => splice (cs.set k v) (k + 1) vs
theorem splice_length : ∀ (vs cs : List Value) (k : Nat), (splice cs k vs).length = cs.length
 | [], _, _ => rfl
 | v :: vs, cs, k => by simp [splice, splice_length vs]
theorem storeCells_run : ∀ (vs : List Value) (b k i : Nat) (c : Array Value) (e : TypeId) (w : World), (∀ v ∈ vs, v.oneCell' = true) -> wh w b = some (.cells c e (0, 0)) -> k + i + vs.length <= c.size ->
  ∃ w', (storeCells ⟨b, k, none⟩ vs i).run P w = .ok () w' ∧ Quiet w w' ∧ ∀ x, wh w' x = if x = b then some (.cells (splice c.toList (k + i) vs).toArray e (0, 0)) else wh w x
 | [], b, k, i, c, e, w, _, hb, _ => by
  refine ⟨w, by simp [storeCells], ⟨rfl, rfl, rfl, Nat.le_refl _⟩, fun x => ?_⟩
  by_cases h : x = b
  ·subst h; simp [hb, splice]
  ·simp [h]
 | v :: vs, b, k, i, c, e, w, h1, hb, hl => by
  have hlt : k + i < c.size := by simp only [List.length_cons] at hl; omega
  have hcell : w.cell? ⟨b, k + i, none⟩ = some (c[k + i]) := by
   rw [cell_hc]; simp [Hc, hb, hlt]
  have hfr : w.frozen? ⟨b, k + i, none⟩ = false := by
   have hb' : w.heap[b]? = some (.cells c e (0, 0)) := hb
   simp [World.frozen?, hb']
  have hst : (store (Addr.add ⟨b, k, none⟩ i) v).run P w = .ok () (w.setCell ⟨b, k + i, none⟩ v) := by
   rw [add_none, run_store P w _ v _ (h1 v (.head _)), hcell]; simp [hfr]
  have hwh : ∀ x, wh (w.setCell ⟨b, k + i, none⟩ v) x = if x = b then some (.cells (c.setIfInBounds (k + i) v) e (0, 0)) else wh w x := by
   intro x
   have hb' : w.heap[b]? = some (.cells c e (0, 0)) := hb
   simp only [wh, World.setCell, Array.getElem?_modify]
   by_cases hxb : b = x
   ·subst hxb; simp [hb']
   ·simp [hxb, Ne.symm hxb]
  obtain ⟨w', hr, hq, hw'⟩ := storeCells_run vs b k (i + 1) (c.setIfInBounds (k + i) v) e (w.setCell ⟨b, k + i, none⟩ v) (fun u hu => h1 u (.tail _ hu)) (by rw [hwh]; simp) (by simp only [List.length_cons, Array.size_setIfInBounds] at *; omega)
  refine ⟨w', ?_, hq, fun x => ?_⟩
  ·simp only [storeCells, Sem.run_bind, hst, Result.andThen_ok, hr]
  ·rw [hw' x, hwh]
   by_cases hxb : x = b
   ·subst hxb; simp [splice, Array.toList_setIfInBounds, Nat.add_assoc]
   ·simp [hxb]
def allOne (vs : List Value) : Bool := vs.all (·.oneCell')
theorem allOne_all {vs : List Value} (h : allOne vs = true) : ∀ u ∈ vs, u.oneCell' = true := by simpa [allOne] using h
theorem oneCell_cells {v : Value} (h : v.oneCell' = true) : v.cells = #[v] := by cases v <;> simp_all [Value.cells, Value.oneCell']
def Cl (G : Gh) (L : List Ch) (v : Value) (cs : List Value) : Prop := ∀ w, St G L w -> v.cells.toList = cs
theorem Cl.c {cs : List Value} (h : v.cells.toList = cs) : Cl G L v cs := fun _ _ => h
theorem Cl.s {m : Nat} (h : SlF G L v m) : Cl G L v [v] := fun w hs => by rw [oneCell_cells (h w hs).one]
def OneC (G : Gh) (L : List Ch) (vs : List Value) : Prop := ∀ w, St G L w -> allOne vs = true
theorem OneC.c {vs : List Value} (h : allOne vs = true) : OneC G L vs := fun _ _ => h
theorem OneC.nil : OneC G L [] := fun _ _ => rfl
theorem OneC.val {v : Value} {vs : List Value} (h : v.oneCell' = true) (k : OneC G L vs) : OneC G L (v :: vs) := fun w hs => by have := k w hs; simp only [allOne, List.all_cons, Bool.and_eq_true]; exact ⟨h, this⟩
theorem OneC.sl {v : Value} {vs : List Value} {m : Nat} (h : SlF G L v m) (k : OneC G L vs) : OneC G L (v :: vs) := fun w hs => OneC.val (h w hs).one k w hs
def OneL {α : Type} (G : Gh) (L : List Ch) (F : FT α) (ys : List α) : Prop := ∀ w, St G L w -> ∀ a ∈ ys, allOne (F.enc a) = true
theorem OneL.c {α : Type} {F : FT α} {ys : List α} (h : ∀ a, allOne (F.enc a) = true) : OneL G L F ys := fun _ _ a _ => h a
theorem OneL.one {α : Type} {F : FT α} {a : α} (h : OneC G L (F.enc a)) : OneL G L F [a] := fun w hs b hb => by
 simp only [List.mem_singleton] at hb; subst hb; exact h w hs
theorem OT.storeB {b k : Nat} {e : TypeId} {cs vs cs' : List Value} {s : Nat} {L' : List Ch} (ho : o.op = .store t x y) (hS : ∀ w, (sizeOf t).run P w = .ok s w) (hx : ev σ x = .pointer (some ⟨b, k, none⟩)) (hy : ev σ y = v) (hv' : Cl G L v vs)
  (hl : vs.length = s) (h1' : OneC G L vs) [hX : ExB b L e cs L'] (hk' : Nat.ble (k + s) cs.length = true) (hc : splice cs k vs = cs') (K1 : K (updo σ o.dst undef) G (blk b e cs' :: L')) : OT P n o σ G L K := by
 have hk : k + s <= cs.length := Nat.le_of_ble_eq_true hk'
 refine OT.ofRunU fun w hs => ?_
 have h1 := allOne_all (h1' w hs)
 have hv := hv' w hs
 have hb : wh w b = some (.cells cs.toArray e (0, 0)) := by
  obtain ⟨hp, s, l1, l2, d⟩ := hs
  obtain ⟨g1, g2, _, m1, _, cc, _⟩ := hX.ex.sep s
  exact l2 _ _ (m1 _ _ cc)
 have hsz : v.cells.size = vs.length := by rw [<- hv]; simp
 obtain ⟨w', hr, hq, hw'⟩ := storeCells_run (P := P) vs b k 0 cs.toArray e w h1 hb (by simpa using (by omega : k + vs.length <= cs.length))
 refine ⟨G, _, w', ?_, hs.set hq hX.ex (b := b) (fun h hh => ?_) hw' (c' := blk b e cs') (fun h hh _ => ?_), K1⟩
 ·simp [execOp, ho, hx, hy, Instr.storeAt, Instr.sureAddr, storeVar, hS w, hsz, hl, hv, hr]
 ·have hh : h b = some (.cells cs.toArray e (0, 0)) := hh
  simp [hh]
 ·subst hc; simp [blk]
theorem splice_all : ∀ (vs cs : List Value) (k : Nat), k + vs.length = cs.length -> splice cs k vs = cs.take k ++ vs
 | [], cs, k, h => by simp only [List.length_nil, Nat.add_zero] at h; subst h; simp [splice]
 | v :: vs, cs, k, h => by
  simp only [List.length_cons] at h
  have hk : k < cs.length := by omega
  rw [splice, splice_all vs (cs.set k v) (k + 1) (by simp; omega), List.take_succ_eq_append_getElem (by simpa using hk)]
  have e : (List.take k cs).set k v = List.take k cs := List.set_eq_of_length_le (by simp; omega)
  simp [List.take_set, e]
theorem OT.storeW {b : Nat} {e : TypeId} {cs vs : List Value} {s : Nat} {L' : List Ch} (ho : o.op = .store t x y) (hS : ∀ w, (sizeOf t).run P w = .ok s w) (hx : ev σ x = .pointer (some ⟨b, 0, none⟩)) (hy : ev σ y = v) (hv' : Cl G L v vs)
  [hX : ExB b L e cs L'] (hl : vs.length = s) (hk : cs.length = s) (h1 : OneC G L vs) (K1 : K (updo σ o.dst undef) G (blk b e vs :: L')) : OT P n o σ G L K :=
 OT.storeB ho hS hx hy hv' hl h1 (by rw [Nat.ble_eq]; omega) (splice_all vs cs 0 (by omega)) (by simpa using K1)
theorem splice_take : ∀ (vs cs : List Value) (k m : Nat), k + vs.length <= m -> m <= cs.length -> (splice cs k vs).take m = splice (cs.take m) k vs
 | [], _, _, _, _, _ => rfl
 | v :: vs, cs, k, m, h, hm => by
  simp only [List.length_cons] at h
  rw [splice, splice, splice_take vs (cs.set k v) (k + 1) m (by omega) (by simpa using hm), List.take_set]
theorem splice_get : ∀ (vs cs : List Value) (k j : Nat), k + vs.length <= cs.length -> (splice cs k vs)[j]? = if k <= j ∧ j < k + vs.length then vs[j - k]? else cs[j]?
 | [], cs, k, j, _ => by
  simp only [splice, List.length_nil, Nat.add_zero]; rw [if_neg (by omega)]
 | v :: vs, cs, k, j, h => by
  simp only [List.length_cons] at h
  rw [splice, splice_get vs (cs.set k v) (k + 1) j (by simp; omega)]
  simp only [List.length_cons]
  by_cases h1 : j = k
  ·subst h1
   rw [if_neg (by omega), if_pos (by omega), Nat.sub_self, List.getElem?_set]
   simp [show j < cs.length by omega]
  ·by_cases h2 : k + 1 <= j ∧ j < k + 1 + vs.length
   ·rw [if_pos h2, if_pos (by omega), show j - k = (j - (k + 1)) + 1 by omega]; simp
   ·rw [if_neg h2, if_neg (by omega), List.getElem?_set, if_neg (by omega)]
theorem flat_set {α : Type} (F : FT α) (xs : List α) (i : Nat) (a : α) (hi : i < xs.length) : F.flat (xs.set i a) = splice (F.flat xs) (i * F.sz) (F.enc a) := by
 have hle : i * F.sz + F.sz <= xs.length * F.sz := by
  have := Nat.mul_le_mul_right F.sz (show i + 1 <= xs.length by omega); rwa [Nat.add_mul, Nat.one_mul] at this
 apply List.ext_getElem?
 intro j
 rw [splice_get _ _ _ _ (by rw [F.len, F.flat_len]; exact hle), F.len]
 by_cases hs : F.sz = 0
 ·have e1 : F.flat (xs.set i a) = [] := List.eq_nil_of_length_eq_zero (by rw [F.flat_len, hs]; simp)
  have e2 : F.flat xs = [] := List.eq_nil_of_length_eq_zero (by rw [F.flat_len, hs]; simp)
  rw [e1, e2, if_neg (by omega)]
 by_cases hj : j < xs.length * F.sz
 ·have hq : j / F.sz < xs.length := (Nat.div_lt_iff_lt_mul (by omega)).2 hj
  have hr : j % F.sz < F.sz := Nat.mod_lt _ (by omega)
  have hjd : j / F.sz * F.sz + j % F.sz = j := by rw [Nat.mul_comm]; exact Nat.div_add_mod j F.sz
  have get : ∀ (ys : List α) (y : α), ys[j / F.sz]? = some y -> (F.flat ys)[j]? = (F.enc y)[j % F.sz]? := fun ys y hy => by
   have hc : (F.enc y)[j % F.sz]? = some ((F.enc y)[j % F.sz]'(by rw [F.len]; exact hr)) := List.getElem?_eq_getElem _
   have := F.flat_get hy hc
   rw [hjd] at this; rw [this, hc]
  by_cases e : j / F.sz = i
  ·rw [get (xs.set i a) a (by rw [e]; simp [hi]), if_pos (by rw [<- e]; omega)]
   congr 1; rw [<- e]; omega
  ·rw [get (xs.set i a) (xs[j / F.sz]) (by rw [List.getElem?_set, if_neg (Ne.symm e)]; exact getE hq), get xs _ (getE hq), if_neg]
   rintro ⟨h1, h2⟩
   apply e
   have a1 : i <= j / F.sz := (Nat.le_div_iff_mul_le (by omega)).2 h1
   have a2 : j / F.sz < i + 1 := (Nat.div_lt_iff_lt_mul (by omega)).2 (by rw [Nat.add_mul, Nat.one_mul]; exact h2)
   omega
 ·rw [if_neg (by omega), List.getElem?_eq_none (by rw [F.flat_len]; simp; omega), List.getElem?_eq_none (by rw [F.flat_len]; omega)]
theorem OT.storeE {α : Type} {F : FT α} {e : TypeId} {xs : List α} {a : α} {s i : Nat} {sl : Value} {L' : List Ch} (ho : o.op = .store t x y) (hS : ∀ w, (sizeOf t).run P w = .ok F.sz w) (hx : ev σ x = .pointer (some ⟨sb sl, so sl + i * s, none⟩)) (hs0 : s = F.sz) (hy : ev σ y = v)
  (hv' : Cl G L v (F.enc a)) (h1' : OneC G L (F.enc a)) [hX : ExS sl L α e F xs L'] (hi : i < xs.length) (K1 : K (updo σ o.dst undef) G (osl e F sl (xs.set i a) :: L')) : OT P n o σ G L K := by
 subst hs0
 have hle : i * F.sz + F.sz <= xs.length * F.sz := by
  have := Nat.mul_le_mul_right F.sz (show i + 1 <= xs.length by omega); rwa [Nat.add_mul, Nat.one_mul] at this
 refine OT.ofRunU fun w hs => ?_
 have h1 := allOne_all (h1' w hs)
 have hv := hv' w hs
 have hb : ∃ b cap c, sl = .slice (some ⟨b, 0, none⟩) xs.length cap ∧ wh w b = some (.cells c e (0, 0)) ∧ xs.length <= cap ∧ cap <= maxLen ∧ c.size = cap * F.sz ∧ c.toList.take (xs.length * F.sz) = F.flat xs := by
  obtain ⟨hp, s, l1, l2, d⟩ := hs
  obtain ⟨g1, g2, _, m1, _, cc, _⟩ := hX.ex.sep s
  rcases cc with ⟨_, rfl⟩ | ⟨b, cap, c, h1, h2, h3⟩
  ·simp at hi
  ·exact ⟨b, cap, c, h1, l2 _ _ (m1 _ _ h2), h3⟩
 obtain ⟨b, cap, c, rfl, hb, h3, h4, h5, h6⟩ := hb
 simp only [sb, so, Nat.zero_add] at hx
 have hsz : v.cells.size = F.sz := by rw [<- F.len a, <- hv]; simp
 have hcap : xs.length * F.sz <= c.size := by rw [h5]; exact Nat.mul_le_mul_right _ h3
 obtain ⟨w', hr, hq, hw'⟩ := storeCells_run (P := P) (F.enc a) b (i * F.sz) 0 c e w h1 hb (by rw [F.len]; omega)
 have hrun : (storeVar t ⟨b, i * F.sz, none⟩ v).run P w = .ok () w' := by
  simp [storeVar, hS w, hsz, hv, hr]
 refine ⟨G, _, w', ?_, hs.set hq hX.ex (b := b) (fun h hh => ?_) hw' (c' := osl e F (.slice (some ⟨b, 0, none⟩) xs.length cap) (xs.set i a)) (fun h hh _ => ?_), K1⟩
 ·simp [execOp, ho, hx, hy, Instr.storeAt, Instr.sureAddr, hrun]
 ·rcases hh with ⟨_, rfl⟩ | ⟨b', cap', c', h1, h2, _⟩
  ·simp at hi
  ·simp only [Value.slice.injEq, Option.some.injEq, Addr.mk.injEq] at h1
   obtain ⟨⟨rfl, _⟩, _⟩ := h1
   simp [h2]
 ·refine .inr ⟨b, cap, (splice c.toList (i * F.sz + 0) (F.enc a)).toArray, by simp, by simp, by simpa using h3, h4, by simp [splice_length, h5], ?_⟩
  rw [List.length_set, Nat.add_zero, flat_set F xs i a hi, <- h6]
  exact splice_take _ _ _ _ (by rw [F.len]; exact hle) (by simpa using hcap)
end
theorem osl_row {α : Type} {F : FT α} {e : TypeId} {v : Value} {xs : List α} {h : Hp} {w : World} (hc : osl e F v xs h) (hl : Hp.le h (wh w)) : w.ownsRow 0 e F.sz v xs.length (F.flat xs) := by
 refine ⟨F.flat_len xs, ?_⟩
 rcases hc with ⟨rfl, rfl⟩ | ⟨b, cap, c, rfl, hb, h1, h2, h3, h4⟩
 ·exact .inl ⟨rfl, rfl⟩
 ·exact .inr ⟨b, cap, c, rfl, Nat.zero_le _, hl b _ hb, h1, h2, h3, h4⟩
theorem row_osl {α : Type} {F : FT α} {e : TypeId} {v : Value} {ys : List α} {w : World} (hr : w.ownsRow 0 e F.sz v ys.length (F.flat ys)) : osl e F v ys (fun b => if v.ownBlock = some b then wh w b else none) := by
 rcases hr.2 with ⟨rfl, h0⟩ | ⟨b, cap, c, rfl, _, hb, h1, h2, h3, h4⟩
 ·exact .inl ⟨rfl, List.eq_nil_of_length_eq_zero h0⟩
 ·refine .inr ⟨b, cap, c, rfl, ?_, h1, h2, h3, h4⟩
  simp only [Value.ownBlock, if_true]; exact hb
theorem osl_own {α : Type} {F : FT α} {e : TypeId} {v : Value} {xs : List α} {h : Hp} (hc : osl e F v xs h) {b : Nat} (hb : v.ownBlock = some b) : (h b).isSome = true := by
 rcases hc with ⟨rfl, rfl⟩ | ⟨b', cap, c, rfl, hb', _⟩
 ·simp [Value.ownBlock] at hb
 ·simp [Value.ownBlock] at hb; subst hb; simp [hb']
theorem St.row {α β : Type} {F : FT α} {F' : FT β} {e e' : TypeId} {v v' : Value} {xs : List α} {ys : List β} {G : Gh} {L L' : List Ch} {w w' : World} (hs : St G L w) (hx : Ex (osl e F v xs) L L') (hg : w.grownBy w' v.ownBlock)
  (ho : v'.ownBlock = v.ownBlock ∨ v'.ownBlock = some w.heap.size) (hr : w'.ownsRow 0 e' F'.sz v' ys.length (F'.flat ys)) (hdr : w.drawn <= w'.drawn) : St G (osl e' F' v' ys :: L') w' := by
 obtain ⟨hp, s, l1, l2, d, ok⟩ := hs
 obtain ⟨h1, h2, d12, m1, m2, hc1, s2⟩ := hx.sep s
 have old : ∀ b o, wh w b = some o -> b < w.heap.size := fun b o h => (Array.getElem?_eq_some_iff.1 h).1
 have own2 : ∀ b, v'.ownBlock = some b -> h2 b = none := by
  intro b hb
  cases hh : h2 b with
  | none => rfl
  | some o =>
   exfalso
   rcases ho with h | h
   ·have := osl_own hc1 (h ▸ hb)
    rcases d12 b with h' | h'
    ·simp [h'] at this
    ·rw [h'] at hh; cases hh
   ·rw [h] at hb
    have hb' : w.heap.size = b := by simpa using hb
    have := old b o (l2 _ _ (m2 b o hh)); omega
 have notOwn : ∀ b o, hp b = some o -> h2 b = some o -> some b ≠ v.ownBlock := by
  intro b o _ h2b e
  have := osl_own hc1 e.symm
  rcases d12 b with h' | h'
  ·simp [h'] at this
  ·rw [h'] at h2b; cases h2b
 have keep2 : Hp.le h2 (wh w') := fun b o h => by
  have hw := l2 _ _ (m2 b o h)
  have := hg.block b (old b o hw) (notOwn b o (m2 b o h) h)
  show w'.heap[b]? = some o
  rw [this]; exact hw
 have gOwn : ∀ b o, G.f b = some o -> some b ≠ v.ownBlock := by
  intro b o hb e
  have := osl_own hc1 e.symm
  obtain ⟨x, hx⟩ := Option.isSome_iff_exists.1 this
  rcases d b with h' | h'
  ·rw [m1 _ _ hx] at h'; cases h'
  ·rw [h'] at hb; cases hb
 refine ⟨fun b => if v'.ownBlock = some b then wh w' b else h2 b, ⟨fun b => if v'.ownBlock = some b then wh w' b else none, h2, ?_, ?_, ?_, row_osl hr, s2⟩, ?_, ?_, ?_, Gh.ok_of ok ⟨hg.os, hg.tape, hg.output, hdr⟩⟩
 ·intro b; by_cases e : v'.ownBlock = some b
  ·exact .inr (own2 b e)
  ·left; simp [e]
 ·intro b o hb; by_cases e : v'.ownBlock = some b <;> simp_all
 ·intro b o hb; by_cases e : v'.ownBlock = some b
  ·rw [own2 b e] at hb; cases hb
  ·simp [e, hb]
 ·intro b o hb
  have hw := l1 b o hb
  have := hg.block b (old b o hw) (gOwn b o hb)
  show w'.heap[b]? = some o
  rw [this]; exact hw
 ·intro b o hb; by_cases e : v'.ownBlock = some b
  ·simpa [e] using hb
  ·simp only [e, if_false] at hb; exact keep2 b o hb
 ·intro b; by_cases e : v'.ownBlock = some b
  ·right
   cases hh : G.f b with
   | none => rfl
   | some o =>
    exfalso
    rcases ho with h | h
    ·exact gOwn b o hh (by rw [<- h, e])
    ·rw [h] at e
     have hb' : w.heap.size = b := by simpa using e
     have := old b o (l1 b o hh); omega
  ·rcases d b with h' | h'
   ·left; simp only [e, if_false]
    cases hh : h2 b with
    | none => rfl
    | some o => rw [m2 b o hh] at h'; cases h'
   ·exact .inr h'
theorem append_drawn {P : Program} (w : World) (t ty e : TypeId) (i : TypeInfo) (z : Value) (size bytes : Nat) (ht : P.underlying t = some (.slice e)) (hi : P.info? e = some i) (hz : i.zero = some z)
  (hsize : i.size = size) (hby : i.bytes = bytes) (hzs : z.cells.size = size) (hsz : 0 < size)
  (v : Value) (n : Nat) (xs : List Value) (hown : w.ownsRow 0 e size v n xs)
  (a : Addr) (m c : Nat) (news : List Value) (hl : news.length = m * size) (hnews : ∀ j u, news[j]? = some u -> w.cell? (a.add j) = some u) (h1 : ∀ u ∈ news, u.oneCell' = true)
  (h63 : n + m <= maxLen) (hbytes : (n + m) * bytes <= 140737488355328) {v' : Value} {w' : World}
  (hr : (Builtin.append_ #[t, t] ty #[v, .slice (some a) m c]).run P w = .ok v' w') : w.drawn <= w'.drawn := by
 subst hsize
 subst hby
 have hsmall : n + m <= 9223372036854775807 := by simp only [maxLen] at h63; omega
 rcases hown.2 with ⟨rfl, rfl⟩ | ⟨g, cap, cur, rfl, hbg, hg, hnc, hcm, hcs, htake⟩
 ·have hx : xs = [] := List.eq_nil_of_length_eq_zero (by simpa using hown.1)
  subst hx
  by_cases hm : m = 0
  ·subst hm
   have hn : news = [] := List.eq_nil_of_length_eq_zero (by simpa using hl)
   subst hn
   have hr2 : (Builtin.append_ #[t, t] ty #[.slice none 0 0, .slice (some a) 0 c]).run P w = .ok (.slice none 0 0) w := by
    simp [Builtin.append_, run_underlying ht, sizeOf, typeInfo, hi, Builtin.lenOf, Builtin.firstCells, loadCells, loadCellsFrom]
   rw [hr2] at hr; cases hr; exact Nat.le_refl _
  ·have hr2 := run_append_nil (P := P) w t ty e i z ht hi hz a m c news hl hnews (by omega) (by omega) (by have hb := hbytes; simp only [Nat.zero_add] at hb; omega)
   rw [hr2] at hr; cases hr; exact Nat.le_succ _
 ·by_cases hroom : n + m <= cap
  ·have hfit : n * i.size + news.length <= cur.size := by rw [hl, hcs, <- Nat.add_mul]; exact Nat.mul_le_mul_right _ hroom
   have hr2 := run_append_room (P := P) w t ty e i ht hi g n cap cur hg a m c news hl hnews h1 hroom hfit
   rw [hr2] at hr; cases hr; exact Nat.le_refl _
  ·have holds : ∀ j u, xs[j]? = some u -> w.cell? ((⟨g, 0, none⟩ : Addr).add j) = some u := hown.cells (g := g) rfl
   have hr2 := run_append_grow (P := P) w t ty e i z ht hi hz ⟨g, 0, none⟩ n cap xs hown.1 holds a m c news hl hnews (by omega) (by omega) (growslice_fits (by omega) hbytes)
   rw [hr2] at hr; cases hr; exact Nat.le_succ _
structure ElemT (P : Program) (t e : TypeId) (s bytes : Nat) (z : List Value) : Prop where
  u : P.underlying t = some (.slice e)
  i : ∃ i zv, P.info? e = some i ∧ i.size = s ∧ i.bytes = bytes ∧ i.zero = some zv ∧ zv.cells.toList = z
def elemB (P : Program) (t : Nat) : Option (Nat × Nat × Nat × Option (List Value)) :=
  match P.underlying t with
  | some (.slice e) => (P.info? e).map fun i => (e, i.size, i.bytes, i.zero.map fun z => z.cells.toList)
  | _ => none
theorem elemT_of {P : Program} {t e s bytes : Nat} {z : List Value} (h : elemB P t = some (e, s, bytes, some z)) : ElemT P t e s bytes z := by
 unfold elemB at h
 split at h
 ·rename_i e' hu
  simp only [Option.map_eq_some_iff, Prod.mk.injEq] at h
  obtain ⟨i, hi, rfl, h1, h2, zv, h3, h4⟩ := h
  exact ⟨hu, i, zv, hi, h1, h2, h3, h4⟩
 ·cases h
section
variable {P : Program} {n : Nat} {σ : Nat -> Value} {G : Gh} {L : List Ch} {o : Oper} {T T' t : TypeId} {x y : Operand} {v u : Value} {K : (Nat -> Value) -> Gh -> List Ch -> Prop}
theorem OT.append {α : Type} {F : FT α} {e : TypeId} {bytes : Nat} {z : List Value} {xs ys : List α} {L' : List Ch} (ho : o.op = .call { callee := .builtin .append, args := #[x, y], argTypes := #[t, t] }) (hT : ElemT P t e F.sz bytes z) (hz : z.length = F.sz) (hs0 : 0 < F.sz)
  (hx : ev σ x = v) [hX : ExS v L α e F xs L'] (hy : ev σ y = u) (hu : Rs G L F u ys) (h1 : OneL G L F ys) (hb' : Nat.ble bytes 512 = true) (hb2' : xs.length + ys.length <= 274877906944)
  (k : ∀ v', K (updo σ o.dst v') G (osl e F v' (xs ++ ys) :: L')) : OT P n o σ G L K := by
 obtain ⟨hu1, i, zv, hi, hi1, hi2, hi3, hi4⟩ := hT
 have hb2 : xs.length + ys.length <= 9223372036854775807 := by omega
 have hb : (xs.length + ys.length) * bytes <= 140737488355328 := Nat.le_trans (Nat.mul_le_mul hb2' (Nat.le_of_ble_eq_true hb')) (by decide)
 refine OT.ofRun fun w hs => ?_
 have hrow : w.ownsRow 0 e F.sz v xs.length (F.flat xs) := by
  obtain ⟨hp, s, l1, l2, d⟩ := hs
  obtain ⟨g1, g2, _, m1, _, cc, _⟩ := hX.ex.sep s
  exact osl_row cc (Hp.le_trans m1 l2)
 have hzs : zv.cells.size = F.sz := by rw [<- hz, <- hi4]; simp
 obtain ⟨⟨c, hc1, hc2, hsl⟩, hget⟩ := hu w hs
 have h1' : ∀ q ∈ F.flat ys, q.oneCell' = true := by
  intro q hq
  obtain ⟨a, ha, hqa⟩ := List.mem_flatMap.1 hq
  exact allOne_all (h1 w hs a ha) q hqa
 have h63 : xs.length + ys.length <= maxLen := by simp only [maxLen]; omega
 have hap : F.flat (xs ++ ys) = F.flat xs ++ F.flat ys := by simp [FT.flat]
 rcases hsl with ⟨b, k0, rfl⟩ | ⟨⟨ua, rfl⟩, h0⟩
 ·obtain ⟨v', w', hr, hown, hgr, _, hat⟩ := run_append_own_at (P := P) w 0 t o.type e i zv F.sz bytes hu1 hi hi3 hi1 hi2 hzs hs0 v xs.length (F.flat xs) hrow ⟨b, k0, none⟩ ys.length c (F.flat ys) (F.flat_len ys)
   (fun j q hq => by rw [add_none]; exact hget j q hq) h1' h63 hb (Nat.zero_le _)
  refine ⟨v', G, _, w', ?_, hs.row hX.ex hgr hat (by rw [List.length_append, hap]; exact hown) (append_drawn w t o.type e i zv F.sz bytes hu1 hi hi3 hi1 hi2 hzs hs0 v xs.length (F.flat xs) hrow ⟨b, k0, none⟩ ys.length c (F.flat ys) (F.flat_len ys) (fun j q hq => by rw [add_none]; exact hget j q hq) h1' h63 hb hr), k v'⟩
  simp [execOp, ho, resolve, invoke, builtin, hx, hy, hr]
 ·have hys : ys = [] := List.eq_nil_of_length_eq_zero h0
  subst hys
  have hv : ∃ a n c, v = .slice a n c ∧ n = xs.length ∧ n <= c := by
   rcases hrow.2 with ⟨rfl, h⟩ | ⟨g, cap, cur, rfl, _, _, h, _⟩
   ·exact ⟨none, 0, 0, rfl, h.symm, Nat.le_refl _⟩
   ·exact ⟨_, _, cap, rfl, rfl, h⟩
  obtain ⟨a, m, cp, rfl, rfl, hmc⟩ := hv
  refine ⟨.slice a xs.length cp, G, _, w, ?_, hs.row hX.ex ⟨rfl, rfl, rfl, Nat.le_refl _, fun _ _ _ => rfl⟩ (.inl rfl) (by simpa using hrow) (Nat.le_refl _), by simpa using k _⟩
  have hf : (Builtin.append_ #[t, t] o.type #[.slice a xs.length cp, .slice ua 0 c]).run P w = .ok (.slice a xs.length cp) w := by
   cases a <;> cases ua <;> simp [loadCells, loadCellsFrom, Builtin.append_, run_underlying hu1, sizeOf, typeInfo, hi, Builtin.lenOf, hmc, Builtin.firstCells, storeCells]
  simp only [List.length_nil] at hy
  simp [execOp, ho, resolve, invoke, builtin, hx, hy, hf]
theorem OT.make {α : Type} {F : FT α} {e : TypeId} {bytes m : Nat} {z : List Value} {a0 : α} {kl kc : IntKind} (ho : o.op = .makeSlice t x y) (hT : ElemT P t e F.sz bytes z) (hz : F.enc a0 = z) (hs0 : 0 < F.sz) (hx : ev σ x = .int kl (m : Int)) (hy : ev σ y = .int kc (m : Int))
  (hb : bytes * m <= 140737488355328) (hb2 : m <= 4611686018427387904) (k : ∀ v', K (updo σ o.dst v') G (osl e F v' (List.replicate m a0) :: L)) : OT P n o σ G L K := by
 obtain ⟨hu1, i, zv, hi, hi1, hi2, hi3, hi4⟩ := hT
 refine OT.ofRun fun w hs => ?_
 have hbm : (i.bytes : Int) * (m : Int) <= 281474976710656 := by
  rw [hi2, <- Int.natCast_mul]; omega
 have hr := run_make (P := P) w t e i zv hu1 hi hi3 kl kc (m : Int) (m : Int) (by omega) (Int.le_refl _) hbm (by omega)
 simp only [Int.toNat_natCast] at hr
 refine ⟨.slice (some ⟨w.heap.size, 0, none⟩) m m, G, _, w.alloc (.cells (madeCells zv.cells (m * i.size)) e), by simp [execOp, ho, hx, hy, hr], hs.new (by exact ⟨rfl, rfl, rfl, Nat.le_refl _⟩) (wh_push w (.cells (madeCells zv.cells (m * i.size)) e (0, 0))) (c := osl e F (.slice (some ⟨w.heap.size, 0, none⟩) m m) (List.replicate m a0)) (fun h hh => ?_), k _⟩
 refine .inr ⟨w.heap.size, m, madeCells zv.cells (m * i.size), by simp, hh, by simp, by simp only [maxLen]; omega, by rw [size_madeCells, hi1], ?_⟩
 have hzl : zv.cells.size = F.sz := by rw [<- F.len a0, hz, <- hi4]; simp
 have e1 : (madeCells zv.cells (m * i.size)).toList.length = m * F.sz := by rw [Array.length_toList, size_madeCells, hi1]
 rw [List.length_replicate, List.take_of_length_le (by omega)]
 apply List.ext_getElem?
 intro j
 by_cases hj : j < m * F.sz
 ·have hr : j % F.sz < F.sz := Nat.mod_lt _ hs0
  have hq : j / F.sz < m := (Nat.div_lt_iff_lt_mul hs0).2 hj
  have hc : (F.enc a0)[j % F.sz]? = some ((F.enc a0)[j % F.sz]'(by rw [F.len]; exact hr)) := List.getElem?_eq_getElem _
  have hg := F.flat_get (xs := List.replicate m a0) (i := j / F.sz) (x := a0) (by simp [hq]) hc
  rw [show j / F.sz * F.sz + j % F.sz = j by rw [Nat.mul_comm]; exact Nat.div_add_mod j F.sz] at hg
  rw [hg, List.getElem?_eq_getElem (by omega)]
  congr 1
  have hj' : j < m * i.size := by rw [hi1]; exact hj
  simp only [madeCells, Array.getElem_toList, Array.getElem_map, Array.getElem_range, hzl]
  have : (F.enc a0) = zv.cells.toList := by rw [hz, hi4]
  simp only [this, Array.getElem_toList]
  exact getElem!_pos _ _ (by rw [hzl]; exact hr)
 ·rw [List.getElem?_eq_none (by omega), List.getElem?_eq_none (by rw [F.flat_len]; simp; omega)]
def BV {α : Type} (F : FT α) (σ : Nat -> Value) (G : Gh) (L : List Ch) : Nat -> List (Nat × Operand) -> List α -> Prop
  | _, [], [] => True
  | i, (j, x) :: ps, a :: az => j = i ∧ Cl G L (ev σ x) (F.enc a) ∧ BV F σ G L (i + 1) ps az
  | _, _, _ => False
theorem foldl_splice : ∀ (l : List Value) (k : Nat) (cs : Array Value) (off : Nat), (l.zipIdx k).foldl (fun cs (c, j) => cs.setIfInBounds (off + j) c) cs = (splice cs.toList (off + k) l).toArray
 | [], k, cs, off => by simp [splice]
 | c :: l, k, cs, off => by
  simp only [List.zipIdx_cons, List.foldl_cons]
  rw [foldl_splice l (k + 1) _ off]
  simp [splice, Nat.add_assoc]
theorem fill_run {α : Type} {F : FT α} {w : World} (hw : St G L w) : ∀ (ps : List (Nat × Operand)) (az : List α) (i : Nat) (cs : Array Value), BV F σ G L i ps az -> cs.size = (i + az.length) * F.sz ->
  Instr.fill (fun i => some (i * F.sz, F.sz)) cs (ps.map fun p => (p.1, ev σ p.2)) = some ((cs.toList.take (i * F.sz) ++ F.flat az).toArray)
 | [], [], i, cs, _, hs => by
  simp only [List.length_nil, Nat.add_zero] at hs
  simp only [List.map_nil, Instr.fill, FT.flat, List.flatMap_nil, List.append_nil, <- hs]
  rw [List.take_of_length_le (by simp)]
 | (j, x) :: ps, a :: az, i, cs, ⟨hj, hc, hb⟩, hs => by
  subst hj
  have hc := hc w hw
  have hsz : (ev σ x).cells.size = F.sz := by rw [<- F.len a, <- hc]; simp
  have hfit : j * F.sz + F.sz <= cs.size := by
   rw [hs, List.length_cons]
   have := Nat.mul_le_mul_right F.sz (show j + 1 <= j + (az.length + 1) by omega)
   rwa [Nat.add_mul, Nat.one_mul] at this
  simp only [List.map_cons, Instr.fill, hsz, ne_eq, not_true_eq_false, decide_false, Bool.false_or]
  rw [if_neg (by simp; omega)]
  have e1 : Array.foldl (fun cs (x : Value × Nat) => cs.setIfInBounds (j * F.sz + x.2) x.1) cs (ev σ x).cells.zipIdx = (splice cs.toList (j * F.sz) (F.enc a)).toArray := by
   rw [<- Array.foldl_toList, Array.toList_zipIdx, hc]
   exact foldl_splice (F.enc a) 0 cs (j * F.sz)
  have e2 := fill_run hw ps az (j + 1) (splice cs.toList (j * F.sz) (F.enc a)).toArray hb (by
   simp only [List.size_toArray, splice_length, Array.length_toList, hs, List.length_cons]; congr 1; omega)
  have e3 : (splice cs.toList (j * F.sz) (F.enc a)).take ((j + 1) * F.sz) = cs.toList.take (j * F.sz) ++ F.enc a := by
   have hm : (j + 1) * F.sz = j * F.sz + F.sz := by rw [Nat.add_mul, Nat.one_mul]
   rw [splice_take _ _ _ _ (by rw [F.len]; omega) (by simpa [hm] using hfit), splice_all _ _ _ (by rw [F.len, List.length_take, Array.length_toList, hm]; omega), List.take_take, Nat.min_eq_left (by omega)]
  simp only [e1]
  rw [e2]
  simp only [e3, FT.flat, List.flatMap_cons, List.append_assoc]
theorem OT.bslice {α : Type} {F : FT α} {e : TypeId} {bytes m : Nat} {z : List Value} {ps : List (Nat × Operand)} {els : List α} (ho : o.op = .buildSlice t m ps.toArray) (hT : ElemT P t e F.sz bytes z) (hz : z.length = F.sz) (hs0 : 0 < F.sz) (hm : els.length = m) (hb : m * F.sz <= 16777216) (hv : BV F σ G L 0 ps els)
  (k : ∀ v', K (updo σ o.dst v') G (osl e F v' els :: L)) : OT P n o σ G L K := by
 obtain ⟨hu1, i, zv, hi, hi1, hi2, hi3, hi4⟩ := hT
 refine OT.ofRun fun w hs => ?_
 subst hm
 have hb' : ¬ 2 ^ 24 < els.length * F.sz := by omega
 have key : ∀ zc : Array Value, (Instr.fill (fun i => some (i * F.sz, F.sz)) (Array.map (fun j => zc[j % zc.size]!) (Array.range (els.length * F.sz))) (ps.map fun p => (p.1, ev σ p.2))) = some (F.flat els).toArray := fun zc => by
  have := fill_run (F := F) hs ps els 0 (Array.map (fun j => zc[j % zc.size]!) (Array.range (els.length * F.sz))) hv (by simp)
  simpa using this
 refine ⟨.slice (some ⟨w.heap.size, 0, none⟩) els.length els.length, G, _, { w with heap := w.heap.push (.cells (F.flat els).toArray e (0, 0)) }, ?_, hs.new (by exact ⟨rfl, rfl, rfl, Nat.le_refl _⟩) (wh_push w _) (c := osl e F (.slice (some ⟨w.heap.size, 0, none⟩) els.length els.length) els) (fun h hh => ?_), k _⟩
 ·have hz0 : (zeroValue e).run P w = .ok zv w := by simp [zeroValue, typeInfo, hi, hi3]
  by_cases h0 : els.length * F.sz = 0
  ·have kk := key #[]
   simp only [execOp, ho, Instr.buildSlice, Sem.run_bind, run_underlying hu1, Result.andThen_ok, sizeOf, typeInfo, run_program, hi, Sem.run_pure, hi1, Sem.run_ite, h0, if_true]
   rw [if_neg (by omega)]
   simp only [List.map_toArray, List.toList_toArray, h0] at kk ⊢
   simp only [kk]
   simp [newRow]
  ·have kk := key zv.cells
   have kk' : (if 2 ^ 24 < els.length * F.sz then (1 : Nat) else 0) = 0 := by rw [if_neg hb']
   have hgt : ¬ (els.length * F.sz > 2 ^ 24) := hb'
   simp only [execOp, ho, Instr.buildSlice, Sem.run_bind, run_underlying hu1, Result.andThen_ok, sizeOf, typeInfo, run_program, hi, Sem.run_pure, hi1, Sem.run_ite, hgt, h0, if_false, hz0]
   simp only [List.map_toArray, List.toList_toArray] at kk ⊢
   simp only [kk]
   simp [newRow]
 ·refine .inr ⟨w.heap.size, els.length, (F.flat els).toArray, rfl, hh, Nat.le_refl _, by
   have : els.length <= els.length * F.sz := Nat.le_mul_of_pos_right _ hs0
   simp only [maxLen]; omega, by simp [F.flat_len], ?_⟩
  rw [<- F.flat_len]; simp
def Places (P : Program) (t : TypeId) (pl : List (Nat × Nat)) : Prop := ∃ fs, P.underlying t = some (.struct fs) ∧ ∀ w, (fs.mapM (fun f => do pure (f.offset, <- sizeOf f.type)) : Sem (Array (Nat × Nat))).run P w = .ok pl.toArray w
def BP (σ : Nat -> Value) (G : Gh) (L : List Ch) : List (Nat × Operand) -> List (Nat × List Value) -> Prop
  | [], [] => True
  | (i, x) :: ps, (j, cs) :: vs => i = j ∧ Cl G L (ev σ x) cs ∧ BP σ G L ps vs
  | _, _ => False
def fillC (pl : List (Nat × Nat)) (cs : List Value) : List (Nat × List Value) -> Option (List Value)
  | [] => some cs
  | (i, vs) :: r =>
    match pl[i]? with
    | none => none
    | some (off, s) => bif Nat.beq vs.length s && Nat.ble (off + vs.length) cs.length then fillC pl (splice cs off vs) r else none
theorem fillC_run {pl : List (Nat × Nat)} {w : World} (hs : St G L w) : ∀ (ps : List (Nat × Operand)) (vs : List (Nat × List Value)) (cs : List Value) (out : List Value), BP σ G L ps vs -> fillC pl cs vs = some out ->
  Instr.fill (fun i => pl[i]?) cs.toArray (ps.map fun p => (p.1, ev σ p.2)) = some out.toArray
 | [], [], cs, out, _, h => by simp only [fillC, Option.some.injEq] at h; subst h; rfl
 | (i, x) :: ps, (j, us) :: vs, cs, out, ⟨hj, hc, hb⟩, h => by
  subst hj
  have hc := hc w hs
  have hsz : (ev σ x).cells.size = us.length := by rw [<- hc]; simp
  simp only [fillC] at h
  cases hp : pl[i]? with
  | none => simp [hp] at h
  | some q =>
   obtain ⟨off, s⟩ := q
   simp only [hp] at h
   cases hb1 : (Nat.beq us.length s && Nat.ble (off + us.length) cs.length) with
   | false => simp [hb1] at h
   | true =>
    simp only [hb1, cond_true] at h
    simp only [Bool.and_eq_true] at hb1
    have q1 := Nat.eq_of_beq_eq_true hb1.1
    have q2 := Nat.le_of_ble_eq_true hb1.2
    simp only [List.map_cons, Instr.fill, hp, hsz, List.size_toArray]
    rw [if_neg (by simp; omega)]
    have e1 : Array.foldl (fun cs (x : Value × Nat) => cs.setIfInBounds (off + x.2) x.1) cs.toArray (ev σ x).cells.zipIdx = (splice cs off us).toArray := by
     rw [<- Array.foldl_toList, Array.toList_zipIdx, hc]
     exact foldl_splice us 0 cs.toArray off
    simp only [e1]
    exact fillC_run hs ps vs _ out hb h
theorem PV.build {pl : List (Nat × Nat)} {z : List Value} {ps : List (Nat × Operand)} {vs : List (Nat × List Value)} {out : List Value} (ho : o.op = .build t ps.toArray) (hz : ZeroT P t z) (hp : Places P t pl) (hb : BP σ G L ps vs) (hf : fillC pl z vs = some out) : PV P o σ G L (.agg out.toArray) := by
 obtain ⟨zv, hz1, hz2⟩ := hz
 obtain ⟨fs, hu, hm⟩ := hp
 intro w hs
 have key := fillC_run hs ps vs z out hb hf
 have hzc : zv.cells = z.toArray := by rw [<- hz2]
 have key' : Instr.fill (fun x => (pl.toArray)[x]?) zv.cells (List.map (fun p => (p.1, ev σ p.2)) ps) = some out.toArray := by rw [hzc]; simpa using key
 simp only [execOp, ho, Instr.build, Sem.run_bind, hz1, Result.andThen_ok, run_underlying hu, hm, List.map_toArray, List.toList_toArray]
 rw [key']
 simp
theorem RV1.cell {a b s : Nat} {e : TypeId} {cs : List Value} {L' : List Ch} (hx : σ a = .pointer (some ⟨b, 0, none⟩)) (hA : Aggr P t s) [hX : ExB b L e cs L'] (hl : cs.length = s) : RV1 P σ G L (.cell a t) (.agg cs.toArray) := by
 intro w hs
 have h := loadCells_run (P := P) s b 0 0 #[] cs w hl (fun j c hc => by rw [Nat.zero_add, Nat.zero_add]; exact Rd.blk (G := G) (L' := L') hc w hs)
 simp only [Array.empty_append] at h
 simp [hx, asAddr, loadVar, (hA w).1, (hA w).2, loadCells, h]
theorem PV.loadW {b s : Nat} {e : TypeId} {cs : List Value} {L' : List Ch} (ho : o.op = .load t x) (hA : Aggr P t s) (hx : ev σ x = .pointer (some ⟨b, 0, none⟩)) [hX : ExB b L e cs L'] (hl : cs.length = s) : PV P o σ G L (.agg cs.toArray) :=
 PV.loadB ho hA hx (by subst hl; simp) hl
end
theorem Sz2 : ∀ w, (sizeOf 2).run Tryz.prog w = .ok 1 w := fun w => by kernel_rfl
theorem Sc2 : Scal Tryz.prog 2 := fun w => ⟨by kernel_rfl, Sz2 w⟩
theorem Zr2 : ZeroT Tryz.prog 2 [.int .i64 0] := ⟨.int .i64 0, fun w => by kernel_rfl, rfl⟩
theorem Sz3 : ∀ w, (sizeOf 3).run Tryz.prog w = .ok 1 w := fun w => by kernel_rfl
theorem Sc3 : Scal Tryz.prog 3 := fun w => ⟨by kernel_rfl, Sz3 w⟩
theorem Zr3 : ZeroT Tryz.prog 3 [.int .i64 0] := ⟨.int .i64 0, fun w => by kernel_rfl, rfl⟩
theorem Sz4 : ∀ w, (sizeOf 4).run Tryz.prog w = .ok 1 w := fun w => by kernel_rfl
theorem Sc4 : Scal Tryz.prog 4 := fun w => ⟨by kernel_rfl, Sz4 w⟩
theorem Sz5 : ∀ w, (sizeOf 5).run Tryz.prog w = .ok 1 w := fun w => by kernel_rfl
theorem Sc5 : Scal Tryz.prog 5 := fun w => ⟨by kernel_rfl, Sz5 w⟩
theorem Sz9 : ∀ w, (sizeOf 9).run Tryz.prog w = .ok 1 w := fun w => by kernel_rfl
theorem Sc9 : Scal Tryz.prog 9 := fun w => ⟨by kernel_rfl, Sz9 w⟩
theorem Sz22 : ∀ w, (sizeOf 22).run Tryz.prog w = .ok 1 w := fun w => by kernel_rfl
theorem Sc22 : Scal Tryz.prog 22 := fun w => ⟨by kernel_rfl, Sz22 w⟩
theorem El22 : ElemT Tryz.prog 22 5 1 1 [.int .u8 0] := elemT_of (by kernel_rfl)
theorem Is22 : IdxS Tryz.prog 22 5 1 := ⟨Tryz.underlying22, by kernel_rfl⟩
theorem Sz24 : ∀ w, (sizeOf 24).run Tryz.prog w = .ok 1 w := fun w => by kernel_rfl
theorem Sc24 : Scal Tryz.prog 24 := fun w => ⟨by kernel_rfl, Sz24 w⟩
theorem El24 : ElemT Tryz.prog 24 95 4 88 [.string ByteArray.empty, .slice none 0 0, .slice none 0 0, .slice none 0 0] := elemT_of (by kernel_rfl)
theorem Is24 : IdxS Tryz.prog 24 95 4 := ⟨Tryz.underlying24, by kernel_rfl⟩
theorem Sz26 : ∀ w, (sizeOf 26).run Tryz.prog w = .ok 1 w := fun w => by kernel_rfl
theorem Ag26 : Aggr Tryz.prog 26 1 := fun w => ⟨by kernel_rfl, Sz26 w⟩
theorem Fo26_0 : FOff Tryz.prog 26 0 0 := ⟨0, by kernel_rfl⟩
theorem Pl26 : Places Tryz.prog 26 [(0, 1)] := ⟨_, Tryz.underlying26, fun w => by kernel_rfl⟩
theorem Zr26 : ZeroT Tryz.prog 26 [.slice none 0 0] := ⟨.agg #[.slice none 0 0], fun w => by kernel_rfl, rfl⟩
theorem Sz27 : ∀ w, (sizeOf 27).run Tryz.prog w = .ok 1 w := fun w => by kernel_rfl
theorem Sc27 : Scal Tryz.prog 27 := fun w => ⟨by kernel_rfl, Sz27 w⟩
theorem El27 : ElemT Tryz.prog 27 42 5 40 [.int .i64 0, .int .i64 0, .int .i64 0, .int .i64 0, .int .i64 0] := elemT_of (by kernel_rfl)
theorem Is27 : IdxS Tryz.prog 27 42 5 := ⟨Tryz.underlying27, by kernel_rfl⟩
theorem Sz29 : ∀ w, (sizeOf 29).run Tryz.prog w = .ok 1 w := fun w => by kernel_rfl
theorem Ag29 : Aggr Tryz.prog 29 1 := fun w => ⟨by kernel_rfl, Sz29 w⟩
theorem Fo29_0 : FOff Tryz.prog 29 0 0 := ⟨0, by kernel_rfl⟩
theorem Pl29 : Places Tryz.prog 29 [(0, 1)] := ⟨_, Tryz.underlying29, fun w => by kernel_rfl⟩
theorem Zr29 : ZeroT Tryz.prog 29 [.slice none 0 0] := ⟨.agg #[.slice none 0 0], fun w => by kernel_rfl, rfl⟩
theorem El32 : ElemT Tryz.prog 32 74 2 32 [.int .i64 0, .slice none 0 0] := elemT_of (by kernel_rfl)
theorem El35 : ElemT Tryz.prog 35 50 1 24 [.slice none 0 0] := elemT_of (by kernel_rfl)
theorem Is35 : IdxS Tryz.prog 35 50 1 := ⟨Tryz.underlying35, by kernel_rfl⟩
theorem Sz42 : ∀ w, (sizeOf 42).run Tryz.prog w = .ok 5 w := fun w => by kernel_rfl
theorem Ag42 : Aggr Tryz.prog 42 5 := fun w => ⟨by kernel_rfl, Sz42 w⟩
theorem Fo42_0 : FOff Tryz.prog 42 0 0 := ⟨0, by kernel_rfl⟩
theorem Fo42_1 : FOff Tryz.prog 42 1 1 := ⟨0, by kernel_rfl⟩
theorem Fo42_2 : FOff Tryz.prog 42 2 2 := ⟨0, by kernel_rfl⟩
theorem Fo42_3 : FOff Tryz.prog 42 3 3 := ⟨0, by kernel_rfl⟩
theorem Fo42_4 : FOff Tryz.prog 42 4 4 := ⟨0, by kernel_rfl⟩
theorem Pl42 : Places Tryz.prog 42 [(0, 1), (1, 1), (2, 1), (3, 1), (4, 1)] := ⟨_, Tryz.underlying42, fun w => by kernel_rfl⟩
theorem Zr42 : ZeroT Tryz.prog 42 [.int .i64 0, .int .i64 0, .int .i64 0, .int .i64 0, .int .i64 0] := ⟨.agg #[.int .i64 0, .int .i64 0, .int .i64 0, .int .i64 0, .int .i64 0], fun w => by kernel_rfl, rfl⟩
theorem Sz45 : ∀ w, (sizeOf 45).run Tryz.prog w = .ok 1 w := fun w => by kernel_rfl
theorem Sc45 : Scal Tryz.prog 45 := fun w => ⟨by kernel_rfl, Sz45 w⟩
theorem El45 : ElemT Tryz.prog 45 2 1 8 [.int .i64 0] := elemT_of (by kernel_rfl)
theorem Is45 : IdxS Tryz.prog 45 2 1 := ⟨Tryz.underlying45, by kernel_rfl⟩
theorem Sz50 : ∀ w, (sizeOf 50).run Tryz.prog w = .ok 1 w := fun w => by kernel_rfl
theorem Sc50 : Scal Tryz.prog 50 := fun w => ⟨by kernel_rfl, Sz50 w⟩
theorem El50 : ElemT Tryz.prog 50 101 4 32 [.int .i64 0, .int .i64 0, .int .i64 0, .int .i64 0] := elemT_of (by kernel_rfl)
theorem Is50 : IdxS Tryz.prog 50 101 4 := ⟨Tryz.underlying50, by kernel_rfl⟩
theorem Zr50 : ZeroT Tryz.prog 50 [.slice none 0 0] := ⟨.slice none 0 0, fun w => by kernel_rfl, rfl⟩
theorem Sz66 : ∀ w, (sizeOf 66).run Tryz.prog w = .ok 1 w := fun w => by kernel_rfl
theorem Sc66 : Scal Tryz.prog 66 := fun w => ⟨by kernel_rfl, Sz66 w⟩
theorem El66 : ElemT Tryz.prog 66 109 5 40 [.int .i64 0, .int .i64 0, .int .i64 0, .int .i64 0, .int .i64 0] := elemT_of (by kernel_rfl)
theorem Is66 : IdxS Tryz.prog 66 109 5 := ⟨Tryz.underlying66, by kernel_rfl⟩
theorem Pl74 : Places Tryz.prog 74 [(0, 1), (1, 1)] := ⟨_, Tryz.underlying74, fun w => by kernel_rfl⟩
theorem Zr74 : ZeroT Tryz.prog 74 [.int .i64 0, .slice none 0 0] := ⟨.agg #[.int .i64 0, .slice none 0 0], fun w => by kernel_rfl, rfl⟩
theorem El79 : ElemT Tryz.prog 79 133 6 48 [.int .i64 0, .int .i64 0, .int .i64 0, .int .i64 0, .int .i64 0, .int .i64 0] := elemT_of (by kernel_rfl)
theorem Is79 : IdxS Tryz.prog 79 133 6 := ⟨Tryz.underlying79, by kernel_rfl⟩
theorem Sz87 : ∀ w, (sizeOf 87).run Tryz.prog w = .ok 3 w := fun w => by kernel_rfl
theorem Ag87 : Aggr Tryz.prog 87 3 := fun w => ⟨by kernel_rfl, Sz87 w⟩
theorem Fo87_0 : FOff Tryz.prog 87 0 0 := ⟨0, by kernel_rfl⟩
theorem Fo87_1 : FOff Tryz.prog 87 1 1 := ⟨0, by kernel_rfl⟩
theorem Fo87_2 : FOff Tryz.prog 87 2 2 := ⟨0, by kernel_rfl⟩
theorem Pl87 : Places Tryz.prog 87 [(0, 1), (1, 1), (2, 1)] := ⟨_, Tryz.underlying87, fun w => by kernel_rfl⟩
theorem Zr87 : ZeroT Tryz.prog 87 [.int .i64 0, .int .i64 0, .int .i64 0] := ⟨.agg #[.int .i64 0, .int .i64 0, .int .i64 0], fun w => by kernel_rfl, rfl⟩
theorem Sz89 : ∀ w, (sizeOf 89).run Tryz.prog w = .ok 4 w := fun w => by kernel_rfl
theorem Ag89 : Aggr Tryz.prog 89 4 := fun w => ⟨by kernel_rfl, Sz89 w⟩
theorem Fo89_0 : FOff Tryz.prog 89 0 0 := ⟨0, by kernel_rfl⟩
theorem Fo89_1 : FOff Tryz.prog 89 1 1 := ⟨2, by kernel_rfl⟩
theorem Pl89 : Places Tryz.prog 89 [(0, 1), (1, 3)] := ⟨_, Tryz.underlying89, fun w => by kernel_rfl⟩
theorem Zr89 : ZeroT Tryz.prog 89 [.int .i64 0, .int .i64 0, .int .i64 0, .int .i64 0] := ⟨.agg #[.int .i64 0, .int .i64 0, .int .i64 0, .int .i64 0], fun w => by kernel_rfl, rfl⟩
theorem El90 : ElemT Tryz.prog 90 89 4 32 [.int .i64 0, .int .i64 0, .int .i64 0, .int .i64 0] := elemT_of (by kernel_rfl)
theorem Is90 : IdxS Tryz.prog 90 89 4 := ⟨Tryz.underlying90, by kernel_rfl⟩
theorem Sz92 : ∀ w, (sizeOf 92).run Tryz.prog w = .ok 1 w := fun w => by kernel_rfl
theorem Sc92 : Scal Tryz.prog 92 := fun w => ⟨by kernel_rfl, Sz92 w⟩
theorem El92 : ElemT Tryz.prog 92 182 4 40 [.int .i64 0, .int .i64 0, .int .i64 0, .string ByteArray.empty] := elemT_of (by kernel_rfl)
theorem Is92 : IdxS Tryz.prog 92 182 4 := ⟨Tryz.underlying92, by kernel_rfl⟩
theorem Sz93 : ∀ w, (sizeOf 93).run Tryz.prog w = .ok 1 w := fun w => by kernel_rfl
theorem Sc93 : Scal Tryz.prog 93 := fun w => ⟨by kernel_rfl, Sz93 w⟩
theorem El93 : ElemT Tryz.prog 93 111 8 64 [.int .i64 0, .int .i64 0, .int .i64 0, .int .i64 0, .int .i64 0, .int .i64 0, .int .i64 0, .int .i64 0] := elemT_of (by kernel_rfl)
theorem Is93 : IdxS Tryz.prog 93 111 8 := ⟨Tryz.underlying93, by kernel_rfl⟩
theorem Sz95 : ∀ w, (sizeOf 95).run Tryz.prog w = .ok 4 w := fun w => by kernel_rfl
theorem Ag95 : Aggr Tryz.prog 95 4 := fun w => ⟨by kernel_rfl, Sz95 w⟩
theorem Fo95_0 : FOff Tryz.prog 95 0 0 := ⟨0, by kernel_rfl⟩
theorem Fo95_1 : FOff Tryz.prog 95 1 1 := ⟨0, by kernel_rfl⟩
theorem Fo95_2 : FOff Tryz.prog 95 2 2 := ⟨0, by kernel_rfl⟩
theorem Fo95_3 : FOff Tryz.prog 95 3 3 := ⟨0, by kernel_rfl⟩
theorem Pl95 : Places Tryz.prog 95 [(0, 1), (1, 1), (2, 1), (3, 1)] := ⟨_, Tryz.underlying95, fun w => by kernel_rfl⟩
theorem Zr95 : ZeroT Tryz.prog 95 [.string ByteArray.empty, .slice none 0 0, .slice none 0 0, .slice none 0 0] := ⟨.agg #[.string ByteArray.empty, .slice none 0 0, .slice none 0 0, .slice none 0 0], fun w => by kernel_rfl, rfl⟩
theorem Sz101 : ∀ w, (sizeOf 101).run Tryz.prog w = .ok 4 w := fun w => by kernel_rfl
theorem Ag101 : Aggr Tryz.prog 101 4 := fun w => ⟨by kernel_rfl, Sz101 w⟩
theorem Fo101_0 : FOff Tryz.prog 101 0 0 := ⟨0, by kernel_rfl⟩
theorem Fo101_1 : FOff Tryz.prog 101 1 1 := ⟨0, by kernel_rfl⟩
theorem Fo101_2 : FOff Tryz.prog 101 2 2 := ⟨0, by kernel_rfl⟩
theorem Fo101_3 : FOff Tryz.prog 101 3 3 := ⟨0, by kernel_rfl⟩
theorem Pl101 : Places Tryz.prog 101 [(0, 1), (1, 1), (2, 1), (3, 1)] := ⟨_, Tryz.underlying101, fun w => by kernel_rfl⟩
theorem Zr101 : ZeroT Tryz.prog 101 [.int .i64 0, .int .i64 0, .int .i64 0, .int .i64 0] := ⟨.agg #[.int .i64 0, .int .i64 0, .int .i64 0, .int .i64 0], fun w => by kernel_rfl, rfl⟩
theorem Fo105_0 : FOff Tryz.prog 105 0 0 := ⟨0, by kernel_rfl⟩
theorem Fo105_1 : FOff Tryz.prog 105 1 1 := ⟨0, by kernel_rfl⟩
theorem Fo105_2 : FOff Tryz.prog 105 2 2 := ⟨0, by kernel_rfl⟩
theorem Pl105 : Places Tryz.prog 105 [(0, 1), (1, 1), (2, 1)] := ⟨_, Tryz.underlying105, fun w => by kernel_rfl⟩
theorem Zr105 : ZeroT Tryz.prog 105 [.slice none 0 0, .int .i64 0, .int .i64 0] := ⟨.agg #[.slice none 0 0, .int .i64 0, .int .i64 0], fun w => by kernel_rfl, rfl⟩
theorem Sz109 : ∀ w, (sizeOf 109).run Tryz.prog w = .ok 5 w := fun w => by kernel_rfl
theorem Ag109 : Aggr Tryz.prog 109 5 := fun w => ⟨by kernel_rfl, Sz109 w⟩
theorem Fo109_0 : FOff Tryz.prog 109 0 0 := ⟨0, by kernel_rfl⟩
theorem Fo109_1 : FOff Tryz.prog 109 1 1 := ⟨3, by kernel_rfl⟩
theorem Pl109 : Places Tryz.prog 109 [(0, 1), (1, 4)] := ⟨_, Tryz.underlying109, fun w => by kernel_rfl⟩
theorem Zr109 : ZeroT Tryz.prog 109 [.int .i64 0, .int .i64 0, .int .i64 0, .int .i64 0, .int .i64 0] := ⟨.agg #[.int .i64 0, .int .i64 0, .int .i64 0, .int .i64 0, .int .i64 0], fun w => by kernel_rfl, rfl⟩
theorem Sz111 : ∀ w, (sizeOf 111).run Tryz.prog w = .ok 8 w := fun w => by kernel_rfl
theorem Ag111 : Aggr Tryz.prog 111 8 := fun w => ⟨by kernel_rfl, Sz111 w⟩
theorem Fo111_0 : FOff Tryz.prog 111 0 0 := ⟨0, by kernel_rfl⟩
theorem Fo111_1 : FOff Tryz.prog 111 1 1 := ⟨2, by kernel_rfl⟩
theorem Fo111_2 : FOff Tryz.prog 111 2 4 := ⟨0, by kernel_rfl⟩
theorem Fo111_3 : FOff Tryz.prog 111 3 5 := ⟨0, by kernel_rfl⟩
theorem Fo111_4 : FOff Tryz.prog 111 4 6 := ⟨0, by kernel_rfl⟩
theorem Fo111_5 : FOff Tryz.prog 111 5 7 := ⟨0, by kernel_rfl⟩
theorem Pl111 : Places Tryz.prog 111 [(0, 1), (1, 3), (4, 1), (5, 1), (6, 1), (7, 1)] := ⟨_, Tryz.underlying111, fun w => by kernel_rfl⟩
theorem Zr111 : ZeroT Tryz.prog 111 [.int .i64 0, .int .i64 0, .int .i64 0, .int .i64 0, .int .i64 0, .int .i64 0, .int .i64 0, .int .i64 0] := ⟨.agg #[.int .i64 0, .int .i64 0, .int .i64 0, .int .i64 0, .int .i64 0, .int .i64 0, .int .i64 0, .int .i64 0], fun w => by kernel_rfl, rfl⟩
theorem El115 : ElemT Tryz.prog 115 119 5 56 [.int .i64 0, .int .i64 0, .int .i64 0, .int .i64 0, .slice none 0 0] := elemT_of (by kernel_rfl)
theorem Is115 : IdxS Tryz.prog 115 119 5 := ⟨Tryz.underlying115, by kernel_rfl⟩
theorem Sz119 : ∀ w, (sizeOf 119).run Tryz.prog w = .ok 5 w := fun w => by kernel_rfl
theorem Ag119 : Aggr Tryz.prog 119 5 := fun w => ⟨by kernel_rfl, Sz119 w⟩
theorem Fo119_0 : FOff Tryz.prog 119 0 0 := ⟨0, by kernel_rfl⟩
theorem Fo119_1 : FOff Tryz.prog 119 1 1 := ⟨2, by kernel_rfl⟩
theorem Fo119_2 : FOff Tryz.prog 119 2 4 := ⟨0, by kernel_rfl⟩
theorem Pl119 : Places Tryz.prog 119 [(0, 1), (1, 3), (4, 1)] := ⟨_, Tryz.underlying119, fun w => by kernel_rfl⟩
theorem Zr119 : ZeroT Tryz.prog 119 [.int .i64 0, .int .i64 0, .int .i64 0, .int .i64 0, .slice none 0 0] := ⟨.agg #[.int .i64 0, .int .i64 0, .int .i64 0, .int .i64 0, .slice none 0 0], fun w => by kernel_rfl, rfl⟩
theorem Sz122 : ∀ w, (sizeOf 122).run Tryz.prog w = .ok 1 w := fun w => by kernel_rfl
theorem Sc122 : Scal Tryz.prog 122 := fun w => ⟨by kernel_rfl, Sz122 w⟩
theorem Sz123 : ∀ w, (sizeOf 123).run Tryz.prog w = .ok 80 w := fun w => by kernel_rfl
theorem Ag123 : Aggr Tryz.prog 123 80 := fun w => ⟨by kernel_rfl, Sz123 w⟩
theorem Ia123 : IdxA Tryz.prog 123 80 1 := ⟨4, Tryz.underlying123, by kernel_rfl⟩
theorem Sz125 : ∀ w, (sizeOf 125).run Tryz.prog w = .ok 6400 w := fun w => by kernel_rfl
theorem Ag125 : Aggr Tryz.prog 125 6400 := fun w => ⟨by kernel_rfl, Sz125 w⟩
theorem Ia125 : IdxA Tryz.prog 125 80 80 := ⟨123, Tryz.underlying125, by kernel_rfl⟩
theorem Sz133 : ∀ w, (sizeOf 133).run Tryz.prog w = .ok 6 w := fun w => by kernel_rfl
theorem Ag133 : Aggr Tryz.prog 133 6 := fun w => ⟨by kernel_rfl, Sz133 w⟩
theorem Fo133_0 : FOff Tryz.prog 133 0 0 := ⟨0, by kernel_rfl⟩
theorem Fo133_1 : FOff Tryz.prog 133 1 1 := ⟨4, by kernel_rfl⟩
theorem Pl133 : Places Tryz.prog 133 [(0, 1), (1, 5)] := ⟨_, Tryz.underlying133, fun w => by kernel_rfl⟩
theorem Zr133 : ZeroT Tryz.prog 133 [.int .i64 0, .int .i64 0, .int .i64 0, .int .i64 0, .int .i64 0, .int .i64 0] := ⟨.agg #[.int .i64 0, .int .i64 0, .int .i64 0, .int .i64 0, .int .i64 0, .int .i64 0], fun w => by kernel_rfl, rfl⟩
theorem Sz148 : ∀ w, (sizeOf 148).run Tryz.prog w = .ok 1 w := fun w => by kernel_rfl
theorem Sc148 : Scal Tryz.prog 148 := fun w => ⟨by kernel_rfl, Sz148 w⟩
theorem El148 : ElemT Tryz.prog 148 4 1 1 [.bool false] := elemT_of (by kernel_rfl)
theorem Is148 : IdxS Tryz.prog 148 4 1 := ⟨Tryz.underlying148, by kernel_rfl⟩
theorem Sz156 : ∀ w, (sizeOf 156).run Tryz.prog w = .ok 2 w := fun w => by kernel_rfl
theorem Ag156 : Aggr Tryz.prog 156 2 := fun w => ⟨by kernel_rfl, Sz156 w⟩
theorem Fo156_0 : FOff Tryz.prog 156 0 0 := ⟨0, by kernel_rfl⟩
theorem Fo156_1 : FOff Tryz.prog 156 1 1 := ⟨0, by kernel_rfl⟩
theorem Pl156 : Places Tryz.prog 156 [(0, 1), (1, 1)] := ⟨_, Tryz.underlying156, fun w => by kernel_rfl⟩
theorem Zr156 : ZeroT Tryz.prog 156 [.int .i64 0, .int .i64 0] := ⟨.agg #[.int .i64 0, .int .i64 0], fun w => by kernel_rfl, rfl⟩
theorem Sz182 : ∀ w, (sizeOf 182).run Tryz.prog w = .ok 4 w := fun w => by kernel_rfl
theorem Ag182 : Aggr Tryz.prog 182 4 := fun w => ⟨by kernel_rfl, Sz182 w⟩
theorem Fo182_0 : FOff Tryz.prog 182 0 0 := ⟨0, by kernel_rfl⟩
theorem Fo182_1 : FOff Tryz.prog 182 1 1 := ⟨1, by kernel_rfl⟩
theorem Fo182_2 : FOff Tryz.prog 182 2 3 := ⟨0, by kernel_rfl⟩
theorem Pl182 : Places Tryz.prog 182 [(0, 1), (1, 2), (3, 1)] := ⟨_, Tryz.underlying182, fun w => by kernel_rfl⟩
theorem Zr182 : ZeroT Tryz.prog 182 [.int .i64 0, .int .i64 0, .int .i64 0, .string ByteArray.empty] := ⟨.agg #[.int .i64 0, .int .i64 0, .int .i64 0, .string ByteArray.empty], fun w => by kernel_rfl, rfl⟩
theorem El190 : ElemT Tryz.prog 190 9 1 16 [.string ByteArray.empty] := elemT_of (by kernel_rfl)
theorem Is190 : IdxS Tryz.prog 190 9 1 := ⟨Tryz.underlying190, by kernel_rfl⟩
theorem El194 : ElemT Tryz.prog 194 148 1 24 [.slice none 0 0] := elemT_of (by kernel_rfl)
theorem Is194 : IdxS Tryz.prog 194 148 1 := ⟨Tryz.underlying194, by kernel_rfl⟩
theorem Ia226 : IdxA Tryz.prog 226 2 1 := ⟨3, Tryz.underlying226, by kernel_rfl⟩
theorem El227 : ElemT Tryz.prog 227 226 2 16 [.int .i64 0, .int .i64 0] := elemT_of (by kernel_rfl)
theorem Is227 : IdxS Tryz.prog 227 226 2 := ⟨Tryz.underlying227, by kernel_rfl⟩
theorem El239 : ElemT Tryz.prog 239 156 2 16 [.int .i64 0, .int .i64 0] := elemT_of (by kernel_rfl)
theorem Is239 : IdxS Tryz.prog 239 156 2 := ⟨Tryz.underlying239, by kernel_rfl⟩
theorem El255 : ElemT Tryz.prog 255 3 1 8 [.int .i64 0] := elemT_of (by kernel_rfl)
theorem Is255 : IdxS Tryz.prog 255 3 1 := ⟨Tryz.underlying255, by kernel_rfl⟩
theorem En6 : Ent Tryz.prog 6 := ent_of Tryz.func6 (by kernel_rfl) (by kernel_rfl)
theorem En7 : Ent Tryz.prog 7 := ent_of Tryz.func7 (by kernel_rfl) (by kernel_rfl)
theorem En8 : Ent Tryz.prog 8 := ent_of Tryz.func8 (by kernel_rfl) (by kernel_rfl)
theorem En9 : Ent Tryz.prog 9 := ent_of Tryz.func9 (by kernel_rfl) (by kernel_rfl)
theorem En10 : Ent Tryz.prog 10 := ent_of Tryz.func10 (by kernel_rfl) (by kernel_rfl)
theorem En11 : Ent Tryz.prog 11 := ent_of Tryz.func11 (by kernel_rfl) (by kernel_rfl)
theorem En15 : Ent Tryz.prog 15 := ent_of Tryz.func15 (by kernel_rfl) (by kernel_rfl)
theorem En23 : Ent Tryz.prog 23 := ent_of Tryz.func23 (by kernel_rfl) (by kernel_rfl)
theorem En24 : Ent Tryz.prog 24 := ent_of Tryz.func24 (by kernel_rfl) (by kernel_rfl)
theorem En25 : Ent Tryz.prog 25 := ent_of Tryz.func25 (by kernel_rfl) (by kernel_rfl)
theorem En26 : Ent Tryz.prog 26 := ent_of Tryz.func26 (by kernel_rfl) (by kernel_rfl)
theorem En27 : Ent Tryz.prog 27 := ent_of Tryz.func27 (by kernel_rfl) (by kernel_rfl)
theorem En28 : Ent Tryz.prog 28 := ent_of Tryz.func28 (by kernel_rfl) (by kernel_rfl)
theorem En29 : Ent Tryz.prog 29 := ent_of Tryz.func29 (by kernel_rfl) (by kernel_rfl)
theorem En30 : Ent Tryz.prog 30 := ent_of Tryz.func30 (by kernel_rfl) (by kernel_rfl)
theorem En31 : Ent Tryz.prog 31 := ent_of Tryz.func31 (by kernel_rfl) (by kernel_rfl)
theorem En32 : Ent Tryz.prog 32 := ent_of Tryz.func32 (by kernel_rfl) (by kernel_rfl)
theorem En33 : Ent Tryz.prog 33 := ent_of Tryz.func33 (by kernel_rfl) (by kernel_rfl)
theorem En34 : Ent Tryz.prog 34 := ent_of Tryz.func34 (by kernel_rfl) (by kernel_rfl)
theorem En35 : Ent Tryz.prog 35 := ent_of Tryz.func35 (by kernel_rfl) (by kernel_rfl)
theorem En36 : Ent Tryz.prog 36 := ent_of Tryz.func36 (by kernel_rfl) (by kernel_rfl)
theorem En37 : Ent Tryz.prog 37 := ent_of Tryz.func37 (by kernel_rfl) (by kernel_rfl)
theorem En38 : Ent Tryz.prog 38 := ent_of Tryz.func38 (by kernel_rfl) (by kernel_rfl)
theorem En40 : Ent Tryz.prog 40 := ent_of Tryz.func40 (by kernel_rfl) (by kernel_rfl)
theorem En41 : Ent Tryz.prog 41 := ent_of Tryz.func41 (by kernel_rfl) (by kernel_rfl)
theorem En42 : Ent Tryz.prog 42 := ent_of Tryz.func42 (by kernel_rfl) (by kernel_rfl)
theorem En47 : Ent Tryz.prog 47 := ent_of Tryz.func47 (by kernel_rfl) (by kernel_rfl)
theorem En48 : Ent Tryz.prog 48 := ent_of Tryz.func48 (by kernel_rfl) (by kernel_rfl)
theorem En49 : Ent Tryz.prog 49 := ent_of Tryz.func49 (by kernel_rfl) (by kernel_rfl)
theorem En50 : Ent Tryz.prog 50 := ent_of Tryz.func50 (by kernel_rfl) (by kernel_rfl)
theorem En52 : Ent Tryz.prog 52 := ent_of Tryz.func52 (by kernel_rfl) (by kernel_rfl)
theorem En54 : Ent Tryz.prog 54 := ent_of Tryz.func54 (by kernel_rfl) (by kernel_rfl)
theorem En55 : Ent Tryz.prog 55 := ent_of Tryz.func55 (by kernel_rfl) (by kernel_rfl)
theorem En56 : Ent Tryz.prog 56 := ent_of Tryz.func56 (by kernel_rfl) (by kernel_rfl)
theorem En57 : Ent Tryz.prog 57 := ent_of Tryz.func57 (by kernel_rfl) (by kernel_rfl)
theorem En58 : Ent Tryz.prog 58 := ent_of Tryz.func58 (by kernel_rfl) (by kernel_rfl)
theorem En59 : Ent Tryz.prog 59 := ent_of Tryz.func59 (by kernel_rfl) (by kernel_rfl)
theorem En60 : Ent Tryz.prog 60 := ent_of Tryz.func60 (by kernel_rfl) (by kernel_rfl)
theorem En61 : Ent Tryz.prog 61 := ent_of Tryz.func61 (by kernel_rfl) (by kernel_rfl)
theorem En62 : Ent Tryz.prog 62 := ent_of Tryz.func62 (by kernel_rfl) (by kernel_rfl)
theorem En63 : Ent Tryz.prog 63 := ent_of Tryz.func63 (by kernel_rfl) (by kernel_rfl)
theorem En64 : Ent Tryz.prog 64 := ent_of Tryz.func64 (by kernel_rfl) (by kernel_rfl)
theorem En65 : Ent Tryz.prog 65 := ent_of Tryz.func65 (by kernel_rfl) (by kernel_rfl)
theorem En66 : Ent Tryz.prog 66 := ent_of Tryz.func66 (by kernel_rfl) (by kernel_rfl)
theorem En67 : Ent Tryz.prog 67 := ent_of Tryz.func67 (by kernel_rfl) (by kernel_rfl)
theorem En68 : Ent Tryz.prog 68 := ent_of Tryz.func68 (by kernel_rfl) (by kernel_rfl)
theorem En69 : Ent Tryz.prog 69 := ent_of Tryz.func69 (by kernel_rfl) (by kernel_rfl)
theorem En70 : Ent Tryz.prog 70 := ent_of Tryz.func70 (by kernel_rfl) (by kernel_rfl)
theorem En71 : Ent Tryz.prog 71 := ent_of Tryz.func71 (by kernel_rfl) (by kernel_rfl)
theorem En72 : Ent Tryz.prog 72 := ent_of Tryz.func72 (by kernel_rfl) (by kernel_rfl)
theorem En73 : Ent Tryz.prog 73 := ent_of Tryz.func73 (by kernel_rfl) (by kernel_rfl)
theorem En74 : Ent Tryz.prog 74 := ent_of Tryz.func74 (by kernel_rfl) (by kernel_rfl)
theorem En75 : Ent Tryz.prog 75 := ent_of Tryz.func75 (by kernel_rfl) (by kernel_rfl)
theorem En76 : Ent Tryz.prog 76 := ent_of Tryz.func76 (by kernel_rfl) (by kernel_rfl)
theorem En77 : Ent Tryz.prog 77 := ent_of Tryz.func77 (by kernel_rfl) (by kernel_rfl)
theorem En78 : Ent Tryz.prog 78 := ent_of Tryz.func78 (by kernel_rfl) (by kernel_rfl)
theorem En79 : Ent Tryz.prog 79 := ent_of Tryz.func79 (by kernel_rfl) (by kernel_rfl)
theorem En80 : Ent Tryz.prog 80 := ent_of Tryz.func80 (by kernel_rfl) (by kernel_rfl)
theorem En81 : Ent Tryz.prog 81 := ent_of Tryz.func81 (by kernel_rfl) (by kernel_rfl)
theorem En82 : Ent Tryz.prog 82 := ent_of Tryz.func82 (by kernel_rfl) (by kernel_rfl)
theorem En83 : Ent Tryz.prog 83 := ent_of Tryz.func83 (by kernel_rfl) (by kernel_rfl)
theorem En84 : Ent Tryz.prog 84 := ent_of Tryz.func84 (by kernel_rfl) (by kernel_rfl)
theorem En86 : Ent Tryz.prog 86 := ent_of Tryz.func86 (by kernel_rfl) (by kernel_rfl)
theorem En87 : Ent Tryz.prog 87 := ent_of Tryz.func87 (by kernel_rfl) (by kernel_rfl)
theorem En88 : Ent Tryz.prog 88 := ent_of Tryz.func88 (by kernel_rfl) (by kernel_rfl)
theorem En89 : Ent Tryz.prog 89 := ent_of Tryz.func89 (by kernel_rfl) (by kernel_rfl)
theorem En90 : Ent Tryz.prog 90 := ent_of Tryz.func90 (by kernel_rfl) (by kernel_rfl)
theorem En91 : Ent Tryz.prog 91 := ent_of Tryz.func91 (by kernel_rfl) (by kernel_rfl)
theorem En92 : Ent Tryz.prog 92 := ent_of Tryz.func92 (by kernel_rfl) (by kernel_rfl)
theorem En93 : Ent Tryz.prog 93 := ent_of Tryz.func93 (by kernel_rfl) (by kernel_rfl)
theorem En94 : Ent Tryz.prog 94 := ent_of Tryz.func94 (by kernel_rfl) (by kernel_rfl)
theorem En95 : Ent Tryz.prog 95 := ent_of Tryz.func95 (by kernel_rfl) (by kernel_rfl)
theorem En96 : Ent Tryz.prog 96 := ent_of Tryz.func96 (by kernel_rfl) (by kernel_rfl)
theorem En97 : Ent Tryz.prog 97 := ent_of Tryz.func97 (by kernel_rfl) (by kernel_rfl)
theorem En98 : Ent Tryz.prog 98 := ent_of Tryz.func98 (by kernel_rfl) (by kernel_rfl)
theorem En99 : Ent Tryz.prog 99 := ent_of Tryz.func99 (by kernel_rfl) (by kernel_rfl)
theorem En100 : Ent Tryz.prog 100 := ent_of Tryz.func100 (by kernel_rfl) (by kernel_rfl)
theorem En101 : Ent Tryz.prog 101 := ent_of Tryz.func101 (by kernel_rfl) (by kernel_rfl)
theorem En102 : Ent Tryz.prog 102 := ent_of Tryz.func102 (by kernel_rfl) (by kernel_rfl)
theorem En103 : Ent Tryz.prog 103 := ent_of Tryz.func103 (by kernel_rfl) (by kernel_rfl)
theorem En104 : Ent Tryz.prog 104 := ent_of Tryz.func104 (by kernel_rfl) (by kernel_rfl)
theorem En105 : Ent Tryz.prog 105 := ent_of Tryz.func105 (by kernel_rfl) (by kernel_rfl)
theorem En106 : Ent Tryz.prog 106 := ent_of Tryz.func106 (by kernel_rfl) (by kernel_rfl)
theorem En107 : Ent Tryz.prog 107 := ent_of Tryz.func107 (by kernel_rfl) (by kernel_rfl)
theorem En108 : Ent Tryz.prog 108 := ent_of Tryz.func108 (by kernel_rfl) (by kernel_rfl)
theorem En109 : Ent Tryz.prog 109 := ent_of Tryz.func109 (by kernel_rfl) (by kernel_rfl)
theorem En110 : Ent Tryz.prog 110 := ent_of Tryz.func110 (by kernel_rfl) (by kernel_rfl)
theorem En111 : Ent Tryz.prog 111 := ent_of Tryz.func111 (by kernel_rfl) (by kernel_rfl)
theorem En112 : Ent Tryz.prog 112 := ent_of Tryz.func112 (by kernel_rfl) (by kernel_rfl)
theorem En113 : Ent Tryz.prog 113 := ent_of Tryz.func113 (by kernel_rfl) (by kernel_rfl)
theorem En114 : Ent Tryz.prog 114 := ent_of Tryz.func114 (by kernel_rfl) (by kernel_rfl)
theorem En115 : Ent Tryz.prog 115 := ent_of Tryz.func115 (by kernel_rfl) (by kernel_rfl)
theorem En116 : Ent Tryz.prog 116 := ent_of Tryz.func116 (by kernel_rfl) (by kernel_rfl)
theorem En117 : Ent Tryz.prog 117 := ent_of Tryz.func117 (by kernel_rfl) (by kernel_rfl)
theorem En118 : Ent Tryz.prog 118 := ent_of Tryz.func118 (by kernel_rfl) (by kernel_rfl)
theorem En119 : Ent Tryz.prog 119 := ent_of Tryz.func119 (by kernel_rfl) (by kernel_rfl)
theorem En120 : Ent Tryz.prog 120 := ent_of Tryz.func120 (by kernel_rfl) (by kernel_rfl)
theorem En121 : Ent Tryz.prog 121 := ent_of Tryz.func121 (by kernel_rfl) (by kernel_rfl)
theorem En122 : Ent Tryz.prog 122 := ent_of Tryz.func122 (by kernel_rfl) (by kernel_rfl)
theorem En123 : Ent Tryz.prog 123 := ent_of Tryz.func123 (by kernel_rfl) (by kernel_rfl)
theorem En124 : Ent Tryz.prog 124 := ent_of Tryz.func124 (by kernel_rfl) (by kernel_rfl)
theorem En125 : Ent Tryz.prog 125 := ent_of Tryz.func125 (by kernel_rfl) (by kernel_rfl)
theorem En126 : Ent Tryz.prog 126 := ent_of Tryz.func126 (by kernel_rfl) (by kernel_rfl)
theorem En127 : Ent Tryz.prog 127 := ent_of Tryz.func127 (by kernel_rfl) (by kernel_rfl)
theorem En128 : Ent Tryz.prog 128 := ent_of Tryz.func128 (by kernel_rfl) (by kernel_rfl)
theorem En129 : Ent Tryz.prog 129 := ent_of Tryz.func129 (by kernel_rfl) (by kernel_rfl)
theorem En130 : Ent Tryz.prog 130 := ent_of Tryz.func130 (by kernel_rfl) (by kernel_rfl)
theorem En131 : Ent Tryz.prog 131 := ent_of Tryz.func131 (by kernel_rfl) (by kernel_rfl)
theorem En132 : Ent Tryz.prog 132 := ent_of Tryz.func132 (by kernel_rfl) (by kernel_rfl)
theorem En133 : Ent Tryz.prog 133 := ent_of Tryz.func133 (by kernel_rfl) (by kernel_rfl)
theorem En134 : Ent Tryz.prog 134 := ent_of Tryz.func134 (by kernel_rfl) (by kernel_rfl)
theorem En135 : Ent Tryz.prog 135 := ent_of Tryz.func135 (by kernel_rfl) (by kernel_rfl)
theorem En136 : Ent Tryz.prog 136 := ent_of Tryz.func136 (by kernel_rfl) (by kernel_rfl)
theorem En137 : Ent Tryz.prog 137 := ent_of Tryz.func137 (by kernel_rfl) (by kernel_rfl)
theorem En138 : Ent Tryz.prog 138 := ent_of Tryz.func138 (by kernel_rfl) (by kernel_rfl)
theorem En139 : Ent Tryz.prog 139 := ent_of Tryz.func139 (by kernel_rfl) (by kernel_rfl)
theorem En140 : Ent Tryz.prog 140 := ent_of Tryz.func140 (by kernel_rfl) (by kernel_rfl)
theorem En141 : Ent Tryz.prog 141 := ent_of Tryz.func141 (by kernel_rfl) (by kernel_rfl)
theorem En142 : Ent Tryz.prog 142 := ent_of Tryz.func142 (by kernel_rfl) (by kernel_rfl)
theorem En143 : Ent Tryz.prog 143 := ent_of Tryz.func143 (by kernel_rfl) (by kernel_rfl)
theorem En144 : Ent Tryz.prog 144 := ent_of Tryz.func144 (by kernel_rfl) (by kernel_rfl)
theorem En145 : Ent Tryz.prog 145 := ent_of Tryz.func145 (by kernel_rfl) (by kernel_rfl)
theorem En146 : Ent Tryz.prog 146 := ent_of Tryz.func146 (by kernel_rfl) (by kernel_rfl)
theorem En147 : Ent Tryz.prog 147 := ent_of Tryz.func147 (by kernel_rfl) (by kernel_rfl)
theorem En148 : Ent Tryz.prog 148 := ent_of Tryz.func148 (by kernel_rfl) (by kernel_rfl)
theorem En149 : Ent Tryz.prog 149 := ent_of Tryz.func149 (by kernel_rfl) (by kernel_rfl)
theorem En150 : Ent Tryz.prog 150 := ent_of Tryz.func150 (by kernel_rfl) (by kernel_rfl)
theorem En151 : Ent Tryz.prog 151 := ent_of Tryz.func151 (by kernel_rfl) (by kernel_rfl)
theorem En152 : Ent Tryz.prog 152 := ent_of Tryz.func152 (by kernel_rfl) (by kernel_rfl)
theorem En153 : Ent Tryz.prog 153 := ent_of Tryz.func153 (by kernel_rfl) (by kernel_rfl)
theorem En154 : Ent Tryz.prog 154 := ent_of Tryz.func154 (by kernel_rfl) (by kernel_rfl)
theorem En155 : Ent Tryz.prog 155 := ent_of Tryz.func155 (by kernel_rfl) (by kernel_rfl)
theorem En156 : Ent Tryz.prog 156 := ent_of Tryz.func156 (by kernel_rfl) (by kernel_rfl)
theorem En157 : Ent Tryz.prog 157 := ent_of Tryz.func157 (by kernel_rfl) (by kernel_rfl)
theorem En158 : Ent Tryz.prog 158 := ent_of Tryz.func158 (by kernel_rfl) (by kernel_rfl)
theorem En159 : Ent Tryz.prog 159 := ent_of Tryz.func159 (by kernel_rfl) (by kernel_rfl)
theorem En160 : Ent Tryz.prog 160 := ent_of Tryz.func160 (by kernel_rfl) (by kernel_rfl)
theorem En161 : Ent Tryz.prog 161 := ent_of Tryz.func161 (by kernel_rfl) (by kernel_rfl)
theorem En162 : Ent Tryz.prog 162 := ent_of Tryz.func162 (by kernel_rfl) (by kernel_rfl)
theorem En163 : Ent Tryz.prog 163 := ent_of Tryz.func163 (by kernel_rfl) (by kernel_rfl)
theorem En164 : Ent Tryz.prog 164 := ent_of Tryz.func164 (by kernel_rfl) (by kernel_rfl)
theorem En165 : Ent Tryz.prog 165 := ent_of Tryz.func165 (by kernel_rfl) (by kernel_rfl)
theorem En166 : Ent Tryz.prog 166 := ent_of Tryz.func166 (by kernel_rfl) (by kernel_rfl)
theorem En167 : Ent Tryz.prog 167 := ent_of Tryz.func167 (by kernel_rfl) (by kernel_rfl)
theorem En168 : Ent Tryz.prog 168 := ent_of Tryz.func168 (by kernel_rfl) (by kernel_rfl)
theorem En169 : Ent Tryz.prog 169 := ent_of Tryz.func169 (by kernel_rfl) (by kernel_rfl)
theorem En170 : Ent Tryz.prog 170 := ent_of Tryz.func170 (by kernel_rfl) (by kernel_rfl)
theorem En171 : Ent Tryz.prog 171 := ent_of Tryz.func171 (by kernel_rfl) (by kernel_rfl)
theorem En172 : Ent Tryz.prog 172 := ent_of Tryz.func172 (by kernel_rfl) (by kernel_rfl)
theorem En173 : Ent Tryz.prog 173 := ent_of Tryz.func173 (by kernel_rfl) (by kernel_rfl)
theorem En174 : Ent Tryz.prog 174 := ent_of Tryz.func174 (by kernel_rfl) (by kernel_rfl)
theorem En175 : Ent Tryz.prog 175 := ent_of Tryz.func175 (by kernel_rfl) (by kernel_rfl)
theorem En176 : Ent Tryz.prog 176 := ent_of Tryz.func176 (by kernel_rfl) (by kernel_rfl)
theorem En177 : Ent Tryz.prog 177 := ent_of Tryz.func177 (by kernel_rfl) (by kernel_rfl)
theorem En178 : Ent Tryz.prog 178 := ent_of Tryz.func178 (by kernel_rfl) (by kernel_rfl)
theorem En179 : Ent Tryz.prog 179 := ent_of Tryz.func179 (by kernel_rfl) (by kernel_rfl)
theorem En180 : Ent Tryz.prog 180 := ent_of Tryz.func180 (by kernel_rfl) (by kernel_rfl)
theorem En181 : Ent Tryz.prog 181 := ent_of Tryz.func181 (by kernel_rfl) (by kernel_rfl)
theorem En182 : Ent Tryz.prog 182 := ent_of Tryz.func182 (by kernel_rfl) (by kernel_rfl)
theorem En183 : Ent Tryz.prog 183 := ent_of Tryz.func183 (by kernel_rfl) (by kernel_rfl)
theorem En184 : Ent Tryz.prog 184 := ent_of Tryz.func184 (by kernel_rfl) (by kernel_rfl)
theorem En185 : Ent Tryz.prog 185 := ent_of Tryz.func185 (by kernel_rfl) (by kernel_rfl)
theorem En186 : Ent Tryz.prog 186 := ent_of Tryz.func186 (by kernel_rfl) (by kernel_rfl)
theorem En187 : Ent Tryz.prog 187 := ent_of Tryz.func187 (by kernel_rfl) (by kernel_rfl)
theorem En188 : Ent Tryz.prog 188 := ent_of Tryz.func188 (by kernel_rfl) (by kernel_rfl)
theorem En189 : Ent Tryz.prog 189 := ent_of Tryz.func189 (by kernel_rfl) (by kernel_rfl)
theorem En190 : Ent Tryz.prog 190 := ent_of Tryz.func190 (by kernel_rfl) (by kernel_rfl)
theorem En191 : Ent Tryz.prog 191 := ent_of Tryz.func191 (by kernel_rfl) (by kernel_rfl)
theorem En192 : Ent Tryz.prog 192 := ent_of Tryz.func192 (by kernel_rfl) (by kernel_rfl)
theorem En193 : Ent Tryz.prog 193 := ent_of Tryz.func193 (by kernel_rfl) (by kernel_rfl)
theorem En194 : Ent Tryz.prog 194 := ent_of Tryz.func194 (by kernel_rfl) (by kernel_rfl)
theorem En195 : Ent Tryz.prog 195 := ent_of Tryz.func195 (by kernel_rfl) (by kernel_rfl)
theorem En196 : Ent Tryz.prog 196 := ent_of Tryz.func196 (by kernel_rfl) (by kernel_rfl)
theorem En197 : Ent Tryz.prog 197 := ent_of Tryz.func197 (by kernel_rfl) (by kernel_rfl)
theorem En198 : Ent Tryz.prog 198 := ent_of Tryz.func198 (by kernel_rfl) (by kernel_rfl)
theorem En199 : Ent Tryz.prog 199 := ent_of Tryz.func199 (by kernel_rfl) (by kernel_rfl)
theorem En200 : Ent Tryz.prog 200 := ent_of Tryz.func200 (by kernel_rfl) (by kernel_rfl)
theorem En201 : Ent Tryz.prog 201 := ent_of Tryz.func201 (by kernel_rfl) (by kernel_rfl)
theorem En202 : Ent Tryz.prog 202 := ent_of Tryz.func202 (by kernel_rfl) (by kernel_rfl)
theorem En203 : Ent Tryz.prog 203 := ent_of Tryz.func203 (by kernel_rfl) (by kernel_rfl)
theorem En204 : Ent Tryz.prog 204 := ent_of Tryz.func204 (by kernel_rfl) (by kernel_rfl)
theorem En205 : Ent Tryz.prog 205 := ent_of Tryz.func205 (by kernel_rfl) (by kernel_rfl)
theorem En206 : Ent Tryz.prog 206 := ent_of Tryz.func206 (by kernel_rfl) (by kernel_rfl)
theorem En207 : Ent Tryz.prog 207 := ent_of Tryz.func207 (by kernel_rfl) (by kernel_rfl)
theorem En208 : Ent Tryz.prog 208 := ent_of Tryz.func208 (by kernel_rfl) (by kernel_rfl)
theorem En209 : Ent Tryz.prog 209 := ent_of Tryz.func209 (by kernel_rfl) (by kernel_rfl)
theorem En210 : Ent Tryz.prog 210 := ent_of Tryz.func210 (by kernel_rfl) (by kernel_rfl)
theorem En211 : Ent Tryz.prog 211 := ent_of Tryz.func211 (by kernel_rfl) (by kernel_rfl)
theorem En212 : Ent Tryz.prog 212 := ent_of Tryz.func212 (by kernel_rfl) (by kernel_rfl)
theorem En213 : Ent Tryz.prog 213 := ent_of Tryz.func213 (by kernel_rfl) (by kernel_rfl)
theorem En214 : Ent Tryz.prog 214 := ent_of Tryz.func214 (by kernel_rfl) (by kernel_rfl)
theorem En215 : Ent Tryz.prog 215 := ent_of Tryz.func215 (by kernel_rfl) (by kernel_rfl)
theorem En216 : Ent Tryz.prog 216 := ent_of Tryz.func216 (by kernel_rfl) (by kernel_rfl)
theorem En217 : Ent Tryz.prog 217 := ent_of Tryz.func217 (by kernel_rfl) (by kernel_rfl)
theorem En218 : Ent Tryz.prog 218 := ent_of Tryz.func218 (by kernel_rfl) (by kernel_rfl)
theorem En219 : Ent Tryz.prog 219 := ent_of Tryz.func219 (by kernel_rfl) (by kernel_rfl)
theorem En220 : Ent Tryz.prog 220 := ent_of Tryz.func220 (by kernel_rfl) (by kernel_rfl)
theorem En221 : Ent Tryz.prog 221 := ent_of Tryz.func221 (by kernel_rfl) (by kernel_rfl)
theorem En222 : Ent Tryz.prog 222 := ent_of Tryz.func222 (by kernel_rfl) (by kernel_rfl)
theorem En223 : Ent Tryz.prog 223 := ent_of Tryz.func223 (by kernel_rfl) (by kernel_rfl)
theorem En224 : Ent Tryz.prog 224 := ent_of Tryz.func224 (by kernel_rfl) (by kernel_rfl)
theorem En225 : Ent Tryz.prog 225 := ent_of Tryz.func225 (by kernel_rfl) (by kernel_rfl)
theorem En226 : Ent Tryz.prog 226 := ent_of Tryz.func226 (by kernel_rfl) (by kernel_rfl)
theorem En227 : Ent Tryz.prog 227 := ent_of Tryz.func227 (by kernel_rfl) (by kernel_rfl)
theorem En228 : Ent Tryz.prog 228 := ent_of Tryz.func228 (by kernel_rfl) (by kernel_rfl)
theorem En229 : Ent Tryz.prog 229 := ent_of Tryz.func229 (by kernel_rfl) (by kernel_rfl)
theorem En230 : Ent Tryz.prog 230 := ent_of Tryz.func230 (by kernel_rfl) (by kernel_rfl)
theorem En231 : Ent Tryz.prog 231 := ent_of Tryz.func231 (by kernel_rfl) (by kernel_rfl)
theorem En232 : Ent Tryz.prog 232 := ent_of Tryz.func232 (by kernel_rfl) (by kernel_rfl)
theorem En233 : Ent Tryz.prog 233 := ent_of Tryz.func233 (by kernel_rfl) (by kernel_rfl)
theorem En234 : Ent Tryz.prog 234 := ent_of Tryz.func234 (by kernel_rfl) (by kernel_rfl)
theorem En235 : Ent Tryz.prog 235 := ent_of Tryz.func235 (by kernel_rfl) (by kernel_rfl)
theorem En236 : Ent Tryz.prog 236 := ent_of Tryz.func236 (by kernel_rfl) (by kernel_rfl)
theorem En237 : Ent Tryz.prog 237 := ent_of Tryz.func237 (by kernel_rfl) (by kernel_rfl)
theorem En238 : Ent Tryz.prog 238 := ent_of Tryz.func238 (by kernel_rfl) (by kernel_rfl)
theorem En239 : Ent Tryz.prog 239 := ent_of Tryz.func239 (by kernel_rfl) (by kernel_rfl)
theorem En240 : Ent Tryz.prog 240 := ent_of Tryz.func240 (by kernel_rfl) (by kernel_rfl)
theorem En241 : Ent Tryz.prog 241 := ent_of Tryz.func241 (by kernel_rfl) (by kernel_rfl)
theorem En242 : Ent Tryz.prog 242 := ent_of Tryz.func242 (by kernel_rfl) (by kernel_rfl)
theorem En243 : Ent Tryz.prog 243 := ent_of Tryz.func243 (by kernel_rfl) (by kernel_rfl)
theorem En246 : Ent Tryz.prog 246 := ent_of Tryz.func246 (by kernel_rfl) (by kernel_rfl)
theorem En248 : Ent Tryz.prog 248 := ent_of Tryz.func248 (by kernel_rfl) (by kernel_rfl)
theorem En252 : Ent Tryz.prog 252 := ent_of Tryz.func252 (by kernel_rfl) (by kernel_rfl)
theorem En253 : Ent Tryz.prog 253 := ent_of Tryz.func253 (by kernel_rfl) (by kernel_rfl)
theorem En254 : Ent Tryz.prog 254 := ent_of Tryz.func254 (by kernel_rfl) (by kernel_rfl)
theorem En255 : Ent Tryz.prog 255 := ent_of Tryz.func255 (by kernel_rfl) (by kernel_rfl)
theorem En256 : Ent Tryz.prog 256 := ent_of Tryz.func256 (by kernel_rfl) (by kernel_rfl)
theorem En257 : Ent Tryz.prog 257 := ent_of Tryz.func257 (by kernel_rfl) (by kernel_rfl)
theorem En258 : Ent Tryz.prog 258 := ent_of Tryz.func258 (by kernel_rfl) (by kernel_rfl)
theorem En259 : Ent Tryz.prog 259 := ent_of Tryz.func259 (by kernel_rfl) (by kernel_rfl)
theorem En263 : Ent Tryz.prog 263 := ent_of Tryz.func263 (by kernel_rfl) (by kernel_rfl)
theorem En264 : Ent Tryz.prog 264 := ent_of Tryz.func264 (by kernel_rfl) (by kernel_rfl)
theorem En265 : Ent Tryz.prog 265 := ent_of Tryz.func265 (by kernel_rfl) (by kernel_rfl)
abbrev vi (n : Int) : Value := .int .i64 n
structure Sl (α : Type) where
  v : Value
  xs : List α
instance {α : Type} : Inhabited (Sl α) := ⟨⟨.slice none 0 0, []⟩⟩
def slT {α : Type} : FT (Sl α) := ⟨1, fun s => [s.v], fun _ => rfl⟩
def intT : FT Int := ⟨1, fun n => [vi n], fun _ => rfl⟩
def byteT : FT UInt8 := ⟨1, fun c => [.int .u8 c.toNat], fun _ => rfl⟩
@[reducible] def prT : FT (Int × Int) := ⟨2, fun p => [vi p.1, vi p.2], fun _ => rfl⟩
def boolT : FT Bool := ⟨1, fun b => [.bool b], fun _ => rfl⟩
def strT : FT ByteArray := ⟨1, fun s => [.string s], fun _ => rfl⟩
def rawT : FT Value := ⟨1, fun v => [v], fun _ => rfl⟩
structure Pt where
  x : Int
  y : Int
  deriving DecidableEq, Inhabited
@[reducible] def ptT : FT Pt := ⟨2, fun r => [vi r.x, vi r.y], fun _ => rfl⟩
@[reducible] def Pt.s0 (x : Int) (r : Pt) : Pt := ⟨x, r.y⟩
@[reducible] def Pt.s1 (x : Int) (r : Pt) : Pt := ⟨r.x, x⟩
structure Trans where
  o : Int
  x : Int
  y : Int
  deriving DecidableEq, Inhabited
@[reducible] def transT : FT Trans := ⟨3, fun r => [vi r.o, vi r.x, vi r.y], fun _ => rfl⟩
@[reducible] def Trans.s0 (x : Int) (r : Trans) : Trans := ⟨x, r.x, r.y⟩
@[reducible] def Trans.s1 (x : Int) (r : Trans) : Trans := ⟨r.o, x, r.y⟩
@[reducible] def Trans.s2 (x : Int) (r : Trans) : Trans := ⟨r.o, r.x, x⟩
structure Rect where
  x0 : Int
  y0 : Int
  x1 : Int
  y1 : Int
  deriving DecidableEq, Inhabited
@[reducible] def rectT : FT Rect := ⟨4, fun r => [vi r.x0, vi r.y0, vi r.x1, vi r.y1], fun _ => rfl⟩
@[reducible] def Rect.s0 (x : Int) (r : Rect) : Rect := ⟨x, r.y0, r.x1, r.y1⟩
@[reducible] def Rect.s1 (x : Int) (r : Rect) : Rect := ⟨r.x0, x, r.x1, r.y1⟩
@[reducible] def Rect.s2 (x : Int) (r : Rect) : Rect := ⟨r.x0, r.y0, x, r.y1⟩
@[reducible] def Rect.s3 (x : Int) (r : Rect) : Rect := ⟨r.x0, r.y0, r.x1, x⟩
structure Edge where
  x0 : Int
  y0 : Int
  x1 : Int
  y1 : Int
  deriving DecidableEq, Inhabited
@[reducible] def Edge.s0 (x : Int) (r : Edge) : Edge := ⟨x, r.y0, r.x1, r.y1⟩
@[reducible] def Edge.s1 (x : Int) (r : Edge) : Edge := ⟨r.x0, x, r.x1, r.y1⟩
@[reducible] def Edge.s2 (x : Int) (r : Edge) : Edge := ⟨r.x0, r.y0, x, r.y1⟩
@[reducible] def Edge.s3 (x : Int) (r : Edge) : Edge := ⟨r.x0, r.y0, r.x1, x⟩
structure Waiver where
  sig : Int
  reason : ByteArray
  deriving DecidableEq, Inhabited
@[reducible] def Waiver.s0 (x : Int) (r : Waiver) : Waiver := ⟨x, r.reason⟩
@[reducible] def Waiver.s1 (x : ByteArray) (r : Waiver) : Waiver := ⟨r.sig, x⟩
structure Rule where
  kind : Int
  layer : Int
  other : Int
  value : Int
  percent : Int
  deriving DecidableEq, Inhabited
@[reducible] def ruleT : FT Rule := ⟨5, fun r => [vi r.kind, vi r.layer, vi r.other, vi r.value, vi r.percent], fun _ => rfl⟩
@[reducible] def Rule.s0 (x : Int) (r : Rule) : Rule := ⟨x, r.layer, r.other, r.value, r.percent⟩
@[reducible] def Rule.s1 (x : Int) (r : Rule) : Rule := ⟨r.kind, x, r.other, r.value, r.percent⟩
@[reducible] def Rule.s2 (x : Int) (r : Rule) : Rule := ⟨r.kind, r.layer, x, r.value, r.percent⟩
@[reducible] def Rule.s3 (x : Int) (r : Rule) : Rule := ⟨r.kind, r.layer, r.other, x, r.percent⟩
@[reducible] def Rule.s4 (x : Int) (r : Rule) : Rule := ⟨r.kind, r.layer, r.other, r.value, x⟩
structure Deck where
  rules : Sl Rule
  deriving Inhabited
@[reducible] def deckT : FT Deck := ⟨1, fun r => [r.rules.v], fun _ => rfl⟩
@[reducible] def Deck.s0 (x : Sl Rule) (r : Deck) : Deck := ⟨x⟩
structure Viol where
  rule : Int
  marker : Sl Rect
  deriving Inhabited
@[reducible] def violT : FT Viol := ⟨2, fun r => [vi r.rule, r.marker.v], fun _ => rfl⟩
@[reducible] def Viol.s0 (x : Int) (r : Viol) : Viol := ⟨x, r.marker⟩
@[reducible] def Viol.s1 (x : Sl Rect) (r : Viol) : Viol := ⟨r.rule, x⟩
structure Piece where
  layer : Int
  reg : Sl Rect
  deriving Inhabited
@[reducible] def Piece.s0 (x : Int) (r : Piece) : Piece := ⟨x, r.reg⟩
@[reducible] def Piece.s1 (x : Sl Rect) (r : Piece) : Piece := ⟨r.layer, x⟩
structure Net where
  pieces : Sl Piece
  deriving Inhabited
@[reducible] def Net.s0 (x : Sl Piece) (r : Net) : Net := ⟨x⟩
structure Label where
  layer : Int
  at_ : Pt
  name : ByteArray
  deriving DecidableEq, Inhabited
@[reducible] def labelT : FT Label := ⟨4, fun r => [vi r.layer, vi r.at_.x, vi r.at_.y, .string r.name], fun _ => rfl⟩
@[reducible] def Label.s0 (x : Int) (r : Label) : Label := ⟨x, r.at_, r.name⟩
@[reducible] def Label.s1 (x : Pt) (r : Label) : Label := ⟨r.layer, x, r.name⟩
@[reducible] def Label.s2 (x : ByteArray) (r : Label) : Label := ⟨r.layer, r.at_, x⟩
structure Shape where
  layer : Int
  box : Rect
  deriving DecidableEq, Inhabited
@[reducible] def shapeT : FT Shape := ⟨5, fun r => [vi r.layer, vi r.box.x0, vi r.box.y0, vi r.box.x1, vi r.box.y1], fun _ => rfl⟩
@[reducible] def Shape.s0 (x : Int) (r : Shape) : Shape := ⟨x, r.box⟩
@[reducible] def Shape.s1 (x : Rect) (r : Shape) : Shape := ⟨r.layer, x⟩
structure Inst where
  cell : Int
  place : Trans
  cols : Int
  rows : Int
  sx : Int
  sy : Int
  deriving DecidableEq, Inhabited
@[reducible] def instT : FT Inst := ⟨8, fun r => [vi r.cell, vi r.place.o, vi r.place.x, vi r.place.y, vi r.cols, vi r.rows, vi r.sx, vi r.sy], fun _ => rfl⟩
@[reducible] def Inst.s0 (x : Int) (r : Inst) : Inst := ⟨x, r.place, r.cols, r.rows, r.sx, r.sy⟩
@[reducible] def Inst.s1 (x : Trans) (r : Inst) : Inst := ⟨r.cell, x, r.cols, r.rows, r.sx, r.sy⟩
@[reducible] def Inst.s2 (x : Int) (r : Inst) : Inst := ⟨r.cell, r.place, x, r.rows, r.sx, r.sy⟩
@[reducible] def Inst.s3 (x : Int) (r : Inst) : Inst := ⟨r.cell, r.place, r.cols, x, r.sx, r.sy⟩
@[reducible] def Inst.s4 (x : Int) (r : Inst) : Inst := ⟨r.cell, r.place, r.cols, r.rows, x, r.sy⟩
structure Cell where
  name : ByteArray
  shapes : Sl Shape
  labels : Sl Label
  insts : Sl Inst
  deriving Inhabited
@[reducible] def cellT : FT Cell := ⟨4, fun r => [.string r.name, r.shapes.v, r.labels.v, r.insts.v], fun _ => rfl⟩
@[reducible] def Cell.s0 (x : ByteArray) (r : Cell) : Cell := ⟨x, r.shapes, r.labels, r.insts⟩
@[reducible] def Cell.s1 (x : Sl Shape) (r : Cell) : Cell := ⟨r.name, x, r.labels, r.insts⟩
@[reducible] def Cell.s2 (x : Sl Label) (r : Cell) : Cell := ⟨r.name, r.shapes, x, r.insts⟩
@[reducible] def Cell.s3 (x : Sl Inst) (r : Cell) : Cell := ⟨r.name, r.shapes, r.labels, x⟩
structure Lib where
  cells : Sl Cell
  deriving Inhabited
@[reducible] def libT : FT Lib := ⟨1, fun r => [r.cells.v], fun _ => rfl⟩
@[reducible] def Lib.s0 (x : Sl Cell) (r : Lib) : Lib := ⟨x⟩
structure Dev where
  kind : Int
  pins : Sl Int
  width : Int
  length : Int
  deriving Inhabited
@[reducible] def Dev.s0 (x : Int) (r : Dev) : Dev := ⟨x, r.pins, r.width, r.length⟩
@[reducible] def Dev.s1 (x : Sl Int) (r : Dev) : Dev := ⟨r.kind, x, r.width, r.length⟩
@[reducible] def Dev.s2 (x : Int) (r : Dev) : Dev := ⟨r.kind, r.pins, x, r.length⟩
@[reducible] def Dev.s3 (x : Int) (r : Dev) : Dev := ⟨r.kind, r.pins, r.width, x⟩
structure Chan where
  box : Rect
  kind : Int
  hor : Bool
  deriving DecidableEq, Inhabited
@[reducible] def Chan.s0 (x : Rect) (r : Chan) : Chan := ⟨x, r.kind, r.hor⟩
@[reducible] def Chan.s1 (x : Int) (r : Chan) : Chan := ⟨r.box, x, r.hor⟩
@[reducible] def Chan.s2 (x : Bool) (r : Chan) : Chan := ⟨r.box, r.kind, x⟩
structure PPiece where
  occ : Int
  piece : Piece
  deriving Inhabited
@[reducible] def PPiece.s0 (x : Int) (r : PPiece) : PPiece := ⟨x, r.piece⟩
@[reducible] def PPiece.s1 (x : Piece) (r : PPiece) : PPiece := ⟨r.occ, x⟩
structure Occ where
  cell : Int
  place : Trans
  path : Sl Int
  deriving Inhabited
@[reducible] def occT : FT Occ := ⟨5, fun r => [vi r.cell, vi r.place.o, vi r.place.x, vi r.place.y, r.path.v], fun _ => rfl⟩
@[reducible] def Occ.s0 (x : Int) (r : Occ) : Occ := ⟨x, r.place, r.path⟩
@[reducible] def Occ.s1 (x : Trans) (r : Occ) : Occ := ⟨r.cell, x, r.path⟩
@[reducible] def Occ.s2 (x : Sl Int) (r : Occ) : Occ := ⟨r.cell, r.place, x⟩
structure Part where
  layer : Int
  cells : Sl Bool
  deriving Inhabited
@[reducible] def Part.s0 (x : Int) (r : Part) : Part := ⟨x, r.cells⟩
@[reducible] def Part.s1 (x : Sl Bool) (r : Part) : Part := ⟨r.layer, x⟩
structure HElem where
  cell : Int
  place : Trans
  deriving DecidableEq, Inhabited
@[reducible] def helemT : FT HElem := ⟨4, fun r => [vi r.cell, vi r.place.o, vi r.place.x, vi r.place.y], fun _ => rfl⟩
@[reducible] def HElem.s0 (x : Int) (r : HElem) : HElem := ⟨x, r.place⟩
@[reducible] def HElem.s1 (x : Trans) (r : HElem) : HElem := ⟨r.cell, x⟩
structure RShape where
  root : Int
  shape : Shape
  deriving DecidableEq, Inhabited
@[reducible] def rshapeT : FT RShape := ⟨6, fun r => [vi r.root, vi r.shape.layer, vi r.shape.box.x0, vi r.shape.box.y0, vi r.shape.box.x1, vi r.shape.box.y1], fun _ => rfl⟩
@[reducible] def RShape.s0 (x : Int) (r : RShape) : RShape := ⟨x, r.shape⟩
@[reducible] def RShape.s1 (x : Shape) (r : RShape) : RShape := ⟨r.root, x⟩
structure Plc where
  pieces : Sl Piece
  poly : Sl Rect
  deriving Inhabited
@[reducible] def Plc.s0 (x : Sl Piece) (r : Plc) : Plc := ⟨x, r.poly⟩
@[reducible] def Plc.s1 (x : Sl Rect) (r : Plc) : Plc := ⟨r.pieces, x⟩
structure HNet where
  net : Net
  occs : Sl Int
  deriving Inhabited
@[reducible] def HNet.s0 (x : Net) (r : HNet) : HNet := ⟨x, r.occs⟩
@[reducible] def HNet.s1 (x : Sl Int) (r : HNet) : HNet := ⟨r.net, x⟩
abbrev vT {α : Type} (F : FT α) (a : α) : Value := .agg (F.enc a).toArray
abbrev vrect (r : Rect) : Value := vT rectT r
abbrev vpt (p : Pt) : Value := vT ptT p
abbrev vtrans (t : Trans) : Value := vT transT t
set_option maxRecDepth 20000
variable {G : Gh} {L : List Ch} {R : Value -> Gh -> List Ch -> Prop}
def within (n lo hi : Int) : Bool := decide (lo <= n) && decide (n <= hi)
theorem within_s {a b c : Int} (k : R (.bool (within a b c)) G L) : CallT Tryz.prog 56 #[vi a, vi b, vi c] G L R := by
 refine CallT.enter (args := _) Tryz.func56 rfl rfl (by kernel_rfl) rfl ?_
 refine WP.sr (RG.br rfl (RG.nil (WP.sr (RG.ml rfl (RG.ml rfl (RG.p (PV.geq rfl rfl rfl) (RG.bl rfl ?_)))))))
 refine RG.g rfl (fun hp => (PV.mvI (.inl rfl) rfl)) ?_
 refine RG.g rfl (fun hp => (PV.mvI (.inl rfl) rfl)) ?_
 refine RG.g rfl (fun hp => (PV.leq rfl (gt' hp) (gt' hp))) ?_
 refine RG.p (PV.pickA rfl rfl (fun hq => gt' (geqT hq)) rfl) (RG.br rfl (RG.nil ?_))
 exact WP.ret ⟨_, _, rv rfl rfl, Cv.p, k⟩
theorem l01In_s {a b c : Int} (k : R (.bool (within a b c)) G L) : CallT Tryz.prog 79 #[vi a, vi b, vi c] G L R := by
 refine CallT.enter (args := _) Tryz.func79 rfl rfl (by kernel_rfl) rfl ?_
 refine WP.sr (RG.br rfl (RG.nil (WP.sr (RG.ml rfl (RG.ml rfl (RG.p (PV.geq rfl rfl rfl) (RG.bl rfl ?_)))))))
 refine RG.g rfl (fun hp => (PV.mvI (.inl rfl) rfl)) ?_
 refine RG.g rfl (fun hp => (PV.mvI (.inl rfl) rfl)) ?_
 refine RG.g rfl (fun hp => (PV.leq rfl (gt' hp) (gt' hp))) ?_
 refine RG.p (PV.pickA rfl rfl (fun hq => gt' (geqT hq)) rfl) (RG.br rfl (RG.nil ?_))
 exact WP.ret ⟨_, _, rv rfl rfl, Cv.p, k⟩
def validRect (r : Rect) : Bool := decide (-40 <= r.x0) && decide (r.x0 < r.x1) && decide (r.x1 <= 40) && decide (-40 <= r.y0) && decide (r.y0 < r.y1) && decide (r.y1 <= 40)
theorem validRect_s {r : Rect} (k : R (.bool (validRect r)) G L) : CallT Tryz.prog 67 #[vrect r] G L R := by
 refine CallT.enter (args := _) Tryz.func67 rfl rfl (by kernel_rfl) rfl ?_
 refine WP.sr ?_
 refine RG.ot rfl (OT.box (cs := rectT.enc r) rfl rfl rfl fun b1 => ?_)
 refine RG.br rfl (RG.nil (WP.sr (RG.p (PV.field rfl Fo101_0 rfl) (RG.p (PV.load1 rfl Sc2 rfl (Rd.blk rfl)) (RG.p (PV.leq rfl rfl rfl) (RG.bl rfl ?_))))))
 refine RG.g rfl (fun hp => (PV.field rfl Fo101_0 rfl)) ?_
 refine RG.g rfl (fun hp => (PV.load1 rfl Sc2 (gt' hp) (Rd.blk rfl))) ?_
 refine RG.g rfl (fun hp => (PV.field rfl Fo101_2 rfl)) ?_
 refine RG.g rfl (fun hp => (PV.load1 rfl Sc2 (gt' hp) (Rd.blk rfl))) ?_
 refine RG.g rfl (fun hp => (PV.lss rfl (gt' hp) (gt' hp))) ?_
 refine RG.p (PV.pickA rfl rfl (fun hq => gt' (geqT hq)) rfl) (RG.bl rfl ?_)
 refine RG.g rfl (fun hp => (PV.field rfl Fo101_2 rfl)) ?_
 refine RG.g rfl (fun hp => (PV.load1 rfl Sc2 (gt' hp) (Rd.blk rfl))) ?_
 refine RG.g rfl (fun hp => (PV.leq rfl (gt' hp) rfl)) ?_
 refine RG.p (PV.pickA rfl rfl (fun hq => gt' (geqT hq)) rfl) (RG.bl rfl ?_)
 refine RG.g rfl (fun hp => (PV.field rfl Fo101_1 rfl)) ?_
 refine RG.g rfl (fun hp => (PV.load1 rfl Sc2 (gt' hp) (Rd.blk rfl))) ?_
 refine RG.g rfl (fun hp => (PV.leq rfl rfl (gt' hp))) ?_
 refine RG.p (PV.pickA rfl rfl (fun hq => gt' (geqT hq)) rfl) (RG.bl rfl ?_)
 refine RG.g rfl (fun hp => (PV.field rfl Fo101_1 rfl)) ?_
 refine RG.g rfl (fun hp => (PV.load1 rfl Sc2 (gt' hp) (Rd.blk rfl))) ?_
 refine RG.g rfl (fun hp => (PV.field rfl Fo101_3 rfl)) ?_
 refine RG.g rfl (fun hp => (PV.load1 rfl Sc2 (gt' hp) (Rd.blk rfl))) ?_
 refine RG.g rfl (fun hp => (PV.lss rfl (gt' hp) (gt' hp))) ?_
 refine RG.p (PV.pickA rfl rfl (fun hq => gt' (geqT hq)) rfl) (RG.bl rfl ?_)
 refine RG.g rfl (fun hp => (PV.field rfl Fo101_3 rfl)) ?_
 refine RG.g rfl (fun hp => (PV.load1 rfl Sc2 (gt' hp) (Rd.blk rfl))) ?_
 refine RG.g rfl (fun hp => (PV.leq rfl (gt' hp) rfl)) ?_
 refine RG.p (PV.pickA rfl rfl (fun hq => gt' (geqT hq)) rfl) (RG.br rfl (RG.nil ?_))
 exact WP.ret ⟨_, _, rv rfl rfl, Cv.p, k⟩
theorem validRect_s' {r : Rect} (k : R (.bool (validRect r)) G L) : CallT Tryz.prog 130 #[vrect r] G L R := by
 refine CallT.enter (args := _) Tryz.func130 rfl rfl (by kernel_rfl) rfl ?_
 refine WP.sr ?_
 refine RG.ot rfl (OT.box (cs := rectT.enc r) rfl rfl rfl fun b1 => ?_)
 refine RG.br rfl (RG.nil (WP.sr (RG.p (PV.field rfl Fo101_0 rfl) (RG.p (PV.load1 rfl Sc2 rfl (Rd.blk rfl)) (RG.p (PV.leq rfl rfl rfl) (RG.bl rfl ?_))))))
 refine RG.g rfl (fun hp => (PV.field rfl Fo101_0 rfl)) ?_
 refine RG.g rfl (fun hp => (PV.load1 rfl Sc2 (gt' hp) (Rd.blk rfl))) ?_
 refine RG.g rfl (fun hp => (PV.field rfl Fo101_2 rfl)) ?_
 refine RG.g rfl (fun hp => (PV.load1 rfl Sc2 (gt' hp) (Rd.blk rfl))) ?_
 refine RG.g rfl (fun hp => (PV.lss rfl (gt' hp) (gt' hp))) ?_
 refine RG.p (PV.pickA rfl rfl (fun hq => gt' (geqT hq)) rfl) (RG.bl rfl ?_)
 refine RG.g rfl (fun hp => (PV.field rfl Fo101_2 rfl)) ?_
 refine RG.g rfl (fun hp => (PV.load1 rfl Sc2 (gt' hp) (Rd.blk rfl))) ?_
 refine RG.g rfl (fun hp => (PV.leq rfl (gt' hp) rfl)) ?_
 refine RG.p (PV.pickA rfl rfl (fun hq => gt' (geqT hq)) rfl) (RG.bl rfl ?_)
 refine RG.g rfl (fun hp => (PV.field rfl Fo101_1 rfl)) ?_
 refine RG.g rfl (fun hp => (PV.load1 rfl Sc2 (gt' hp) (Rd.blk rfl))) ?_
 refine RG.g rfl (fun hp => (PV.leq rfl rfl (gt' hp))) ?_
 refine RG.p (PV.pickA rfl rfl (fun hq => gt' (geqT hq)) rfl) (RG.bl rfl ?_)
 refine RG.g rfl (fun hp => (PV.field rfl Fo101_1 rfl)) ?_
 refine RG.g rfl (fun hp => (PV.load1 rfl Sc2 (gt' hp) (Rd.blk rfl))) ?_
 refine RG.g rfl (fun hp => (PV.field rfl Fo101_3 rfl)) ?_
 refine RG.g rfl (fun hp => (PV.load1 rfl Sc2 (gt' hp) (Rd.blk rfl))) ?_
 refine RG.g rfl (fun hp => (PV.lss rfl (gt' hp) (gt' hp))) ?_
 refine RG.p (PV.pickA rfl rfl (fun hq => gt' (geqT hq)) rfl) (RG.bl rfl ?_)
 refine RG.g rfl (fun hp => (PV.field rfl Fo101_3 rfl)) ?_
 refine RG.g rfl (fun hp => (PV.load1 rfl Sc2 (gt' hp) (Rd.blk rfl))) ?_
 refine RG.g rfl (fun hp => (PV.leq rfl (gt' hp) rfl)) ?_
 refine RG.p (PV.pickA rfl rfl (fun hq => gt' (geqT hq)) rfl) (RG.br rfl (RG.nil ?_))
 exact WP.ret ⟨_, _, rv rfl rfl, Cv.p, k⟩
def reasonByte (c : UInt8) : Bool := decide (97 <= c.toNat) && decide (c.toNat <= 122) || decide (48 <= c.toNat) && decide (c.toNat <= 57) || decide (c.toNat = 45)
def reason (s : ByteArray) : Bool := decide (1 <= s.size) && decide (s.size <= 24) && decide (∀ i, i < s.size -> reasonByte (bt s i) = true)
abbrev bv (bs : List Bool) : List Value := bs.map Value.bool
theorem bv_get {bs : List Bool} {k : Nat} (h : k < bs.length) : (bv bs)[k]? = some (.bool (gd bs k)) := by simp [bv, gd, h]
theorem bv_splice (bs : List Bool) (k : Nat) (x : Bool) : splice (bv bs) k [.bool x] = bv (bs.set k x) := by simp [splice, bv, List.map_set]
theorem bv_part (bs : List Bool) (k n : Nat) : ((bv bs).drop k).take n = bv ((bs.drop k).take n) := by simp [bv, List.map_drop, List.map_take]
def falsB : Value -> Bool
  | .bool b => !b
  | _ => false
def zeroB (P : Program) (t : TypeId) (n : Nat) : Bool :=
  match (P.info? t).bind (·.zero) with
  | some z => Nat.beq z.cells.size n && z.cells.toList.all falsB
  | none => false
theorem zeroB_spec {P : Program} {t : TypeId} {n : Nat} (h : zeroB P t n = true) : ZeroT P t (bv (List.replicate n false)) := by
 unfold zeroB at h
 split at h
 ·rename_i z hz
  obtain ⟨i, hi, hz⟩ := Option.bind_eq_some_iff.1 hz
  simp only [Bool.and_eq_true] at h
  refine ⟨z, fun w => by simp [zeroValue, typeInfo, hi, hz], ?_⟩
  apply List.ext_getElem?
  intro k
  have hn : z.cells.size = n := Nat.eq_of_beq_eq_true h.1
  by_cases hk : k < n
  ·have hl : k < z.cells.toList.length := by simpa [hn] using hk
   have := List.all_eq_true.1 h.2 _ (List.getElem_mem hl)
   rw [List.getElem?_eq_getElem hl]
   generalize z.cells.toList[k] = v at this
   cases v <;> simp_all [falsB, bv]
  ·rw [List.getElem?_eq_none (by simp [hn]; omega), List.getElem?_eq_none (by simp [bv]; omega)]
 ·cases h
section
variable {P : Program} {n : Nat} {σ : Nat -> Value} {G : Gh} {L : List Ch} {o : Oper} {T T' t : TypeId} {x y : Operand} {v u : Value} {K : (Nat -> Value) -> Gh -> List Ch -> Prop}
theorem PV.build0 {z : List Value} (ho : o.op = .build t #[]) {ln e : Nat} (hu : P.underlying t = some (.array ln e)) (hi : ∃ s, (P.info? e).map (·.size) = some s) (hz : ZeroT P t z) : PV P o σ G L (.agg z.toArray) := by
 obtain ⟨zv, hz1, hz2⟩ := hz
 obtain ⟨s, hi⟩ := hi
 obtain ⟨i, hi1, rfl⟩ := info_size hi
 intro w hs
 have hzc : zv.cells = z.toArray := by rw [<- hz2]
 simp [execOp, ho, Instr.build, hz1, run_underlying hu, sizeOf, typeInfo, hi1, Instr.fill, hzc]
def arrB (P : Program) (t e n : Nat) : Option (Nat × Nat) :=
  match P.info? e with
  | some i => (P.info? t).bind fun j => j.zero.map fun z => (i.size, z.cells.size)
  | none => none
theorem PV.buildA {α : Type} {F : FT α} {ps : List (Nat × Operand)} {az : List α} {ln e : Nat} (ho : o.op = .build t ps.toArray) (hu : P.underlying t = some (.array ln e)) (hi : arrB P t e ln = some (F.sz, az.length * F.sz)) (hv : BV F σ G L 0 ps az) : PV P o σ G L (.agg (F.flat az).toArray) := by
 unfold arrB at hi
 split at hi
 ·rename_i i h1
  obtain ⟨j, h2, h3⟩ := Option.bind_eq_some_iff.1 hi
  obtain ⟨z, h4, h5⟩ := Option.map_eq_some_iff.1 h3
  simp only [Prod.mk.injEq] at h5
  intro w hs
  have key := fill_run (F := F) hs ps az 0 z.cells hv (by rw [h5.2, Nat.zero_add])
  simp only [Nat.zero_mul, List.take_zero, List.nil_append] at key
  have hz : (zeroValue t).run P w = .ok z w := by simp [zeroValue, typeInfo, h2, h4]
  simp only [execOp, ho, Instr.build, Sem.run_bind, hz, Result.andThen_ok, run_underlying hu, sizeOf, typeInfo, run_program, h1, Sem.run_pure, h5.1, List.map_toArray, List.toList_toArray]
  rw [key]
  simp
 ·cases hi
theorem PV.loadGr {b k : Nat} {e : TypeId} {cs : List Value} {bs : List Bool} {L' : List Ch} (ho : o.op = .load t x) (hS : Scal P t) (hx : ev σ x = .pointer (some ⟨b, k, none⟩)) [hX : ExB b L e cs L'] (hb : cs = bv bs) (hk : k < bs.length) : PV P o σ G L (.bool (gd bs k)) := by
 subst hb
 exact PV.load1 ho hS hx (Rd.blk (L' := L') (bv_get hk))
theorem PV.loadRow {b k s : Nat} {e : TypeId} {cs : List Value} {bs : List Bool} {L' : List Ch} (ho : o.op = .load t x) (hA : Aggr P t s) (hx : ev σ x = .pointer (some ⟨b, k, none⟩)) [hX : ExB b L e cs L'] (hb : cs = bv bs) (hk : k + s <= bs.length) :
  PV P o σ G L (.agg (bv ((bs.drop k).take s)).toArray) := by
 subst hb
 exact PV.loadB ho hA hx (L' := L') (bv_part bs k s) (by simp [bv]; omega)
theorem OT.storeGr {b k : Nat} {e : TypeId} {cs : List Value} {bs : List Bool} {q : Bool} {L' : List Ch} (ho : o.op = .store t x y) (hS : ∀ w, (sizeOf t).run P w = .ok 1 w) (hx : ev σ x = .pointer (some ⟨b, k, none⟩)) (hy : ev σ y = .bool q)
  [hX : ExB b L e cs L'] (hb : cs = bv bs) (hk : k < bs.length) (K1 : K (updo σ o.dst undef) G (blk b e (bv (bs.set k q)) :: L')) : OT P n o σ G L K := by
 subst hb
 exact OT.storeB (vs := [.bool q]) ho hS hx hy (Cl.c rfl) rfl (OneC.c rfl) (by rw [Nat.ble_eq]; simp [bv]; omega) (bv_splice bs k q) K1
theorem run_equalIn_bools (w : World) (d : Nat) (t e : TypeId) (n : Nat) (ht : P.underlying t = some (.array n e)) (he : P.underlying e = some .bool) (hsz : ∀ w, (sizeOf e).run P w = .ok 1 w)
  (xs ys : List Bool) (hx : xs.length = n) (hy : ys.length = n) :
  (Op.equalIn (d + 2) t (.agg (bv xs).toArray) (.agg (bv ys).toArray)).run P w = .ok (decide (xs = ys)) w := by
 have hall : decide (xs = ys) = (List.range' 0 n 1).all fun i => xs.getD i false == ys.getD i false := by
  rw [Bool.eq_iff_iff, decide_eq_true_iff, List.all_eq_true]
  constructor
  ·rintro rfl i _; simp
  ·intro h
   apply List.ext_getElem?
   intro i
   by_cases hi : i < n
   ·have := h i (by simp [List.mem_range'_1, hi])
    simp only [List.getD, beq_iff_eq] at this
    rw [List.getElem?_eq_getElem (by omega), List.getElem?_eq_getElem (by omega)] at this ⊢
    simpa using this
   ·rw [List.getElem?_eq_none (by omega), List.getElem?_eq_none (by omega)]
 rw [hall, Op.equalIn]
 simp only [Sem.run_bind, run_underlying ht, Result.andThen_ok, hsz, Std.Legacy.Range.forIn_eq_forIn_range', Std.Legacy.Range.size, Nat.sub_zero, Nat.add_sub_cancel, Nat.div_one]
 have hl : ∀ i ∈ List.range' 0 n 1, i < n := fun i hi => by simpa using (List.mem_range'_1.1 hi).2
 generalize List.range' 0 n 1 = l at hl ⊢
 induction l with
 | nil => simp
 | cons i l ih =>
  have hi : i < n := hl i (by simp)
  have px : (part e (bv xs).toArray (i * 1)).run P w = .ok (.bool (xs.getD i false)) w := by
   simp [part, isAgg, run_underlying he, List.getD, List.getElem?_eq_getElem (show i < xs.length by omega), bv]
  have py : (part e (bv ys).toArray (i * 1)).run P w = .ok (.bool (ys.getD i false)) w := by
   simp [part, isAgg, run_underlying he, List.getD, List.getElem?_eq_getElem (show i < ys.length by omega), bv]
  have pe := run_equalIn_bool' (P := P) w d e (xs.getD i false) (ys.getD i false) he
  simp only [List.forIn_cons, Sem.run_bind, px, py, pe, Result.andThen_ok, List.all_cons]
  cases hb : (xs.getD i false == ys.getD i false)
  ·simp
  ·simp only [Bool.not_true, Bool.false_eq_true, if_false, Sem.run_pure, Result.andThen_ok, Bool.true_and]
   exact ih fun j hj => hl j (by simp [hj])
theorem PV.eqlRow {xs ys : List Bool} {ln e : Nat} (ho : o.op = .binOp .eql T x y T') (hT : P.underlying T = some (.array ln e)) (he : P.underlying e = some .bool) (hsz : ∀ w, (sizeOf e).run P w = .ok 1 w) (hm : P.eqGuardType P.depth T = false)
  (hx : ev σ x = .agg (bv xs).toArray) (hy : ev σ y = .agg (bv ys).toArray) (hlx : xs.length = ln) (hly : ys.length = ln) : PV P o σ G L (.bool (decide (xs = ys))) := by
 intro w hw
 have h1 := run_equalIn_bools (P := P) w 9998 T e ln hT he hsz xs ys hlx hly
 have h2 : (binOp .eql T (.agg (bv xs).toArray) (.agg (bv ys).toArray)).run P w = .ok (.bool (decide (xs = ys))) w := by
  rw [run_eql_struct, h1]; rfl
 simp only [execOp, ho, hx, hy, Sem.run_bind, run_eqGuard_agg w .eql T x y _ _ hm, Result.andThen_ok, h2, Sem.run_pure]
theorem eqT_run {fs : Array Field} {t : TypeId} (d : Nat) (xs ys : Array Value) (w : World) (ht : P.underlying t = some (.struct fs)) (hp : P.stoodInHeld t = false) : (Op.equalIn (d + 1) t (.agg xs) (.agg ys)).run P w = (Op.eqFields d xs ys fs.toList).run P w := by
 have hfs : P.fieldsOf t = fs := by simp only [Program.fieldsOf, ht]
 rw [run_equalIn_agg w d t xs ys (by rw [hfs]; exact ht) hp, hfs]
def EqT {α : Type} [DecidableEq α] (P : Program) (T : TypeId) (F : FT α) : Prop :=
  P.eqGuardType P.depth T = false ∧ ∀ (a b : α) w, (Op.equalIn 10000 T (vT F a) (vT F b)).run P w = .ok (decide (a = b)) w
theorem PV.eqlT {α : Type} [DecidableEq α] {F : FT α} {a b : α} (ho : o.op = .binOp .eql T x y T') (hE : EqT P T F) (hx : ev σ x = vT F a) (hy : ev σ y = vT F b) : PV P o σ G L (.bool (decide (a = b))) := by
 intro w hw
 have h2 : (binOp .eql T (vT F a) (vT F b)).run P w = .ok (.bool (decide (a = b))) w := by
  rw [run_eql_struct, hE.2]; rfl
 simp only [execOp, ho, hx, hy, Sem.run_bind, run_eqGuard_agg w .eql T x y _ _ hE.1, Result.andThen_ok, h2, Sem.run_pure]
theorem PV.neqT {α : Type} [DecidableEq α] {F : FT α} {a b : α} (ho : o.op = .binOp .neq T x y T') (hE : EqT P T F) (hx : ev σ x = vT F a) (hy : ev σ y = vT F b) : PV P o σ G L (.bool (!decide (a = b))) := by
 intro w hw
 have h2 : (binOp .neq T (vT F a) (vT F b)).run P w = .ok (.bool (!decide (a = b))) w := by
  rw [run_neq_struct, hE.2]; rfl
 simp only [execOp, ho, hx, hy, Sem.run_bind, run_eqGuard_agg w .neq T x y _ _ hE.1, Result.andThen_ok, h2, Sem.run_pure]
theorem OT.boxG {e : TypeId} {bs : List Bool} (ho : o.op = .box e x) (hx : ev σ x = .agg (bv bs).toArray) (k : ∀ b, K (updo σ o.dst (.pointer (some ⟨b, 0, none⟩))) G (blk b e (bv bs) :: L)) : OT P n o σ G L K :=
 OT.box ho hx rfl k
theorem St.ex {c : Ch} {L' : List Ch} {w : World} (h : St G L w) (hx : Ex c L L') : St G (c :: L') w :=
 let ⟨hp, s, rest⟩ := h; ⟨hp, hx.sep s, rest⟩
theorem CallT.exB {f : FuncId} {args : Array Value} {R : Value -> Gh -> List Ch -> Prop} {b : Nat} {e : TypeId} {cs : List Value} {L' : List Ch} [hX : ExB b L e cs L'] (h : CallT P f args G (blk b e cs :: L') R) : CallT P f args G L R :=
 CallT.of fun w hs => h.run (hs.ex hX.ex)
theorem CallT.exS {α : Type} {F : FT α} {xs : List α} {f : FuncId} {args : Array Value} {R : Value -> Gh -> List Ch -> Prop} {e : TypeId} {L' : List Ch} (v : Value) [hX : ExS v L α e F xs L'] (h : CallT P f args G (osl e F v xs :: L') R) : CallT P f args G L R :=
 CallT.of fun w hs => h.run (hs.ex hX.ex)
end
def has (r : Nat -> Bool) (x : Nat) : Bool := decide (x < 80) && r x
def prev (r : Nat -> Bool) (x : Nat) : Bool := decide (0 < x) && has r (x - 1)
def tr (r : Nat -> Bool) (x : Nat) : Bool := has r x != prev r x
def trans (r : Nat -> Bool) : List Nat := (List.range 81).filter (tr r)
def transFrom (r : Nat -> Bool) (x : Nat) : List Nat := (List.range' x (81 - x)).filter (tr r)
def pairs : List Nat -> List (Nat × Nat)
  | a :: b :: l => (a, b) :: pairs l
  | _ => []
def runEnd (r : Nat -> Bool) (x : Nat) : Nat := if x < 80 ∧ r x = true then runEnd r (x + 1) else x
termination_by 80 - x
theorem runEnd_ge (r : Nat -> Bool) (x : Nat) : x <= runEnd r x := by
 rw [runEnd]; split
 ·have := runEnd_ge r (x + 1); omega
 ·exact Nat.le_refl x
termination_by 80 - x
theorem runEnd_le (r : Nat -> Bool) (x : Nat) (h : x <= 80) : runEnd r x <= 80 := by
 rw [runEnd]; split
 ·exact runEnd_le r (x + 1) (by omega)
 ·exact h
termination_by 80 - x
theorem runEnd_has (r : Nat -> Bool) (x : Nat) : has r (runEnd r x) = false := by
 rw [runEnd]; split
 ·exact runEnd_has r (x + 1)
 ·rename_i h; simp only [has]; cases hr : r x <;> simp_all
termination_by 80 - x
theorem runEnd_in (r : Nat -> Bool) (x : Nat) : ∀ z, x <= z -> z < runEnd r x -> has r z = true := by
 intro z h1 h2
 rw [runEnd] at h2; split at h2
 ·rename_i h
  by_cases e : z = x
  ·subst e; simp [has, h]
  ·exact runEnd_in r (x + 1) z (by omega) h2
 ·omega
termination_by 80 - x
def runsFrom (r : Nat -> Bool) (x : Nat) : List (Nat × Nat) :=
  if x < 80 then
    if r x then (x, runEnd r (x + 1)) :: runsFrom r (runEnd r (x + 1) + 1) else runsFrom r (x + 1)
  else []
termination_by 80 - x
decreasing_by
  · have := runEnd_ge r (x + 1); omega
  · omega
theorem transFrom_step (r : Nat -> Bool) (x : Nat) (h : x <= 80) : transFrom r x = if tr r x then x :: transFrom r (x + 1) else transFrom r (x + 1) := by
 unfold transFrom
 rw [show 81 - x = (81 - (x + 1)) + 1 by omega, List.range'_succ, List.filter_cons]
theorem prev_succ (r : Nat -> Bool) (x : Nat) : prev r (x + 1) = has r x := by simp [prev]
theorem transFrom_run (r : Nat -> Bool) (x : Nat) (h : x <= 80) (hp : prev r x = true) : transFrom r x = runEnd r x :: transFrom r (runEnd r x + 1) := by
 rw [transFrom_step r x h, runEnd]
 by_cases hx : x < 80 ∧ r x = true
 ·rw [if_pos hx]
  have h1 : has r x = true := by simp [has, hx]
  have h2 : tr r x = false := by simp [tr, h1, hp]
  rw [h2, if_neg (by simp)]
  exact transFrom_run r (x + 1) (by omega) (by rw [prev_succ]; exact h1)
 ·rw [if_neg hx]
  have h1 : has r x = false := by simp only [has]; cases hr : r x <;> simp_all
  have h2 : tr r x = true := by simp [tr, h1, hp]
  rw [h2, if_pos rfl]
termination_by 80 - x
theorem pairs_trans (r : Nat -> Bool) (x : Nat) (hp : prev r x = false) : pairs (transFrom r x) = runsFrom r x := by
 rw [runsFrom]
 by_cases hx : x < 80
 ·rw [if_pos hx, transFrom_step r x (by omega)]
  by_cases hr : r x = true
  ·have h1 : has r x = true := by simp [has, hx, hr]
   have h2 : tr r x = true := by simp [tr, h1, hp]
   rw [h2, if_pos rfl, if_pos hr, transFrom_run r (x + 1) (by omega) (by rw [prev_succ]; exact h1), pairs]
   congr 1
   have := runEnd_ge r (x + 1)
   exact pairs_trans r (runEnd r (x + 1) + 1) (by rw [prev_succ]; exact runEnd_has r _)
  ·have h1 : has r x = false := by simp [has, hr]
   have h2 : tr r x = false := by simp [tr, h1, hp]
   rw [h2, if_neg (by simp), if_neg hr]
   exact pairs_trans r (x + 1) (by rw [prev_succ]; exact h1)
 ·rw [if_neg hx]
  by_cases e : x = 80
  ·subst e
   rw [transFrom_step r 80 (by omega)]
   have h2 : tr r 80 = false := by simp [tr, has, hp]
   rw [h2, if_neg (by simp)]
   simp [transFrom, pairs]
  ·unfold transFrom; rw [show 81 - x = 0 by omega]; simp [pairs]
termination_by 80 - x
theorem pairs_trans0 (r : Nat -> Bool) : pairs (trans r) = runsFrom r 0 := by
 have : trans r = transFrom r 0 := by unfold trans transFrom; rw [List.range_eq_range']
 rw [this]; exact pairs_trans r 0 (by simp [prev])
theorem trans_inj {r q : Nat -> Bool} (h : trans r = trans q) : ∀ x, x < 80 -> r x = q x := by
 have ht : ∀ x, x < 81 -> tr r x = tr q x := fun x hx => by
  have h1 : x ∈ trans r ↔ x ∈ trans q := by rw [h]
  simp only [trans, List.mem_filter, List.mem_range, hx, true_and] at h1
  cases h2 : tr r x <;> cases h3 : tr q x <;> simp_all
 have hh : ∀ x, x < 81 -> has r x = has q x := by
  intro x
  induction x with
  | zero => intro hx; have := ht 0 hx; simpa [tr, prev] using this
  | succ x ih =>
   intro hx
   have h1 := ht (x + 1) hx
   have h2 := ih (by omega)
   simp only [tr, prev_succ, h2] at h1
   cases h3 : has q x <;> simp_all
 intro x hx
 have := hh x (by omega)
 simpa [has, hx] using this
theorem trans_congr {r q : Nat -> Bool} (h : ∀ x, x < 80 -> r x = q x) : trans r = trans q := by
 have hh : ∀ x, has r x = has q x := fun x => by
  by_cases hx : x < 80
  ·simp [has, h x hx]
  ·simp [has, hx]
 have : tr r = tr q := by funext x; simp [tr, prev, hh]
 simp [trans, this]
def gb (bs : List Bool) (y x : Nat) : Bool := gd bs (y * 80 + x)
def rowsEq (bs : List Bool) (e y : Nat) : Bool := decide (trans (gb bs e) = trans (gb bs y))
def endFrom (bs : List Bool) (y e : Nat) : Nat := if e < 80 ∧ rowsEq bs e y = true then endFrom bs y (e + 1) else e
termination_by 80 - e
theorem endFrom_ge (bs : List Bool) (y e : Nat) : e <= endFrom bs y e := by
 rw [endFrom]; split
 ·have := endFrom_ge bs y (e + 1); omega
 ·exact Nat.le_refl e
termination_by 80 - e
theorem endFrom_le (bs : List Bool) (y e : Nat) (h : e <= 80) : endFrom bs y e <= 80 := by
 rw [endFrom]; split
 ·exact endFrom_le bs y (e + 1) (by omega)
 ·exact h
termination_by 80 - e
theorem endFrom_eq (bs : List Bool) (y e : Nat) : ∀ z, e <= z -> z < endFrom bs y e -> rowsEq bs z y = true := by
 intro z h1 h2
 rw [endFrom] at h2; split at h2
 ·rename_i h
  by_cases c : z = e
  ·subst c; exact h.2
  ·exact endFrom_eq bs y (e + 1) z (by omega) h2
 ·omega
termination_by 80 - e
def mkR (y e : Nat) (p : Nat × Nat) : Rect := ⟨(p.1 : Int) - 40, (y : Int) - 40, (p.2 : Int) - 40, (e : Int) - 40⟩
def canonFrom (bs : List Bool) (y : Nat) : List Rect :=
  if y < 80 then (runsFrom (gb bs y) 0).map (mkR y (endFrom bs y (y + 1))) ++ canonFrom bs (endFrom bs y (y + 1)) else []
termination_by 80 - y
decreasing_by have := endFrom_ge bs y (y + 1); omega
def canon (bs : List Bool) : List Rect := canonFrom bs 0
def rowL (bs : List Bool) (y : Nat) : List Bool := (bs.drop (y * 80)).take 80
theorem rowL_length {bs : List Bool} {y : Nat} (h : bs.length = 6400) (hy : y < 80) : (rowL bs y).length = 80 := by simp [rowL]; omega
theorem rowL_get {bs : List Bool} {y x : Nat} (h : bs.length = 6400) (hy : y < 80) (hx : x < 80) : (rowL bs y)[x]? = some (gb bs y x) := by
 have : y * 80 + x < bs.length := by omega
 simp [rowL, gb, gd, hx, this]
theorem rowL_eq {bs : List Bool} {e y : Nat} (h : bs.length = 6400) (he : e < 80) (hy : y < 80) : decide (rowL bs e = rowL bs y) = rowsEq bs e y := by
 rw [rowsEq, decide_eq_decide]
 constructor
 ·intro h1
  refine trans_congr fun x hx => ?_
  have h2 := rowL_get h he hx
  rw [h1, rowL_get h hy hx] at h2
  exact (Option.some.inj h2).symm
 ·intro h1
  apply List.ext_getElem?
  intro x
  by_cases hx : x < 80
  ·rw [rowL_get h he hx, rowL_get h hy hx, trans_inj h1 x hx]
  ·rw [List.getElem?_eq_none (by rw [rowL_length h he]; omega), List.getElem?_eq_none (by rw [rowL_length h hy]; omega)]
def inR (r : Rect) (y x : Nat) : Bool := decide (r.x0 + 40 <= x) && decide ((x : Int) < r.x1 + 40) && decide (r.y0 + 40 <= y) && decide ((y : Int) < r.y1 + 40)
def bits (rs : List Rect) : List Bool := (List.range 6400).map fun k => rs.any fun r => inR r (k / 80) (k % 80)
theorem bits_length (rs : List Rect) : (bits rs).length = 6400 := by simp [bits]
theorem bits_eq {rs : List Rect} {bs : List Bool} (h : bs.length = 6400) (hg : ∀ y x, y < 80 -> x < 80 -> gb bs y x = rs.any fun r => inR r y x) : bs = bits rs := by
 apply List.ext_getElem?
 intro k
 by_cases hk : k < 6400
 ·have h1 := hg (k / 80) (k % 80) (by omega) (by omega)
  have e : k / 80 * 80 + k % 80 = k := by omega
  rw [gb, e] at h1
  rw [getG (by omega), h1]; simp [bits, hk]
 ·rw [List.getElem?_eq_none (by omega), List.getElem?_eq_none (by simp [bits]; omega)]
theorem runs_any (r : Nat -> Bool) (x0 x : Nat) (hx : x < 80) : ((runsFrom r x0).any fun p => decide (p.1 <= x) && decide (x < p.2)) = (decide (x0 <= x) && r x) := by
 rw [runsFrom]
 by_cases h : x0 < 80
 ·rw [if_pos h]
  by_cases hr : r x0 = true
  ·rw [if_pos hr]
   have ih := runs_any r (runEnd r (x0 + 1) + 1) x hx
   have h1 := runEnd_ge r (x0 + 1)
   have h2 := runEnd_has r (x0 + 1)
   have h3 := runEnd_in r (x0 + 1) x
   rw [List.any_cons, ih]
   by_cases c : x0 <= x
   ·by_cases c1 : x < runEnd r (x0 + 1)
    ·have : r x = true := by
      by_cases c2 : x = x0
      ·rw [c2]; exact hr
      ·have := h3 (by omega) c1; simp [has] at this; exact this.2
     simp [c, c1, this]
    ·by_cases c2 : x = runEnd r (x0 + 1)
     ·rw [<- c2] at h2
      have : r x = false := by simpa [has, hx] using h2
      simp [this, c1]
     ·have : runEnd r (x0 + 1) + 1 <= x := by omega
      simp [this, c, c1]
   ·have : ¬ runEnd r (x0 + 1) + 1 <= x := by omega
    simp [c, this]
  ·rw [if_neg hr, runs_any r (x0 + 1) x hx]
   by_cases c : x = x0
   ·subst c; simp [hr]
   ·congr 1; rw [decide_eq_decide]; omega
 ·rw [if_neg h]
  have : ¬ x0 <= x := by omega
  simp [this]
termination_by 80 - x0
decreasing_by
 ·have := runEnd_ge r (x0 + 1); omega
 ·omega
theorem runs_mem (r : Nat -> Bool) (x0 : Nat) : ∀ p ∈ runsFrom r x0, p.1 < p.2 ∧ p.2 <= 80 := by
 intro p hp
 rw [runsFrom] at hp
 by_cases h : x0 < 80
 ·rw [if_pos h] at hp
  by_cases hr : r x0 = true
  ·rw [if_pos hr] at hp
   have h1 := runEnd_ge r (x0 + 1)
   have h2 := runEnd_le r (x0 + 1) (by omega)
   rcases List.mem_cons.1 hp with rfl | hp
   ·exact ⟨by simp only; omega, h2⟩
   ·exact runs_mem r _ p hp
  ·rw [if_neg hr] at hp; exact runs_mem r _ p hp
 ·rw [if_neg h] at hp; cases hp
termination_by 80 - x0
decreasing_by
 ·have := runEnd_ge r (x0 + 1); omega
 ·omega
theorem runs_len (r : Nat -> Bool) (x0 : Nat) : 2 * (runsFrom r x0).length <= 81 - x0 := by
 rw [runsFrom]
 by_cases h : x0 < 80
 ·rw [if_pos h]
  by_cases hr : r x0 = true
  ·rw [if_pos hr]
   have h1 := runEnd_ge r (x0 + 1)
   have h2 := runs_len r (runEnd r (x0 + 1) + 1)
   simp only [List.length_cons]; omega
  ·rw [if_neg hr]
   have := runs_len r (x0 + 1); omega
 ·rw [if_neg h]; simp
termination_by 80 - x0
decreasing_by
 ·have := runEnd_ge r (x0 + 1); omega
 ·omega
def wsum : List (Nat × Nat) -> Nat
  | [] => 0
  | p :: l => (p.2 - p.1) + wsum l
theorem runs_wsum (r : Nat -> Bool) (x : Nat) : wsum (runsFrom r x) <= 80 - x := by
 rw [runsFrom]
 by_cases hx : x < 80
 ·rw [if_pos hx]
  by_cases hr : r x = true
  ·rw [if_pos hr]
   have h1 := runEnd_ge r (x + 1)
   have h2 := runEnd_le r (x + 1) (by omega)
   have h3 := runs_wsum r (runEnd r (x + 1) + 1)
   simp only [wsum]; omega
  ·rw [if_neg hr]
   have := runs_wsum r (x + 1); omega
 ·rw [if_neg hx]; simp [wsum]
termination_by 80 - x
decreasing_by
 ·have := runEnd_ge r (x + 1); omega
 ·omega
theorem inR_mkR {y e : Nat} {p : Nat × Nat} {y' x' : Nat} : inR (mkR y e p) y' x' = ((decide (p.1 <= x') && decide (x' < p.2)) && (decide (y <= y') && decide (y' < e))) := by
 rw [Bool.eq_iff_iff]; simp [inR, mkR]; omega
theorem rowsEq_gb' {bs : List Bool} {z y : Nat} (h : rowsEq bs z y = true) : ∀ x, x < 80 -> gb bs z x = gb bs y x := by
 simp only [rowsEq, decide_eq_true_eq] at h
 exact trans_inj h
theorem any_map_and {α : Type} (l : List α) (f : α -> Bool) (b : Bool) : (l.any fun p => f p && b) = (l.any f && b) := by
 cases b <;> simp
theorem canonFrom_any (bs : List Bool) (y0 y x : Nat) (hy : y < 80) (hx : x < 80) : ((canonFrom bs y0).any fun r => inR r y x) = (decide (y0 <= y) && gb bs y x) := by
 rw [canonFrom]
 by_cases h : y0 < 80
 ·rw [if_pos h, List.any_append, canonFrom_any bs (endFrom bs y0 (y0 + 1)) y x hy hx, List.any_map]
  have e1 : ((fun r => inR r y x) ∘ mkR y0 (endFrom bs y0 (y0 + 1))) = fun p : Nat × Nat => (decide (p.1 <= x) && decide (x < p.2)) && (decide (y0 <= y) && decide (y < endFrom bs y0 (y0 + 1))) := by
   funext p; exact inR_mkR
  rw [e1, any_map_and, runs_any _ _ _ hx]
  have h1 := endFrom_ge bs y0 (y0 + 1)
  have h2 := endFrom_eq bs y0 (y0 + 1) y
  by_cases c : y0 <= y
  ·by_cases c1 : y < endFrom bs y0 (y0 + 1)
   ·have e2 : gb bs y x = gb bs y0 x := by
     by_cases c2 : y = y0
     ·rw [c2]
     ·exact rowsEq_gb' (h2 (by omega) c1) x hx
    have : ¬ endFrom bs y0 (y0 + 1) <= y := by omega
    simp [c, c1, this, e2]
   ·have : endFrom bs y0 (y0 + 1) <= y := by omega
    simp [c, c1, this]
  ·have : ¬ endFrom bs y0 (y0 + 1) <= y := by omega
   simp [c, this]
 ·rw [if_neg h]
  have : ¬ y0 <= y := by omega
  simp [this]
termination_by 80 - y0
decreasing_by have := endFrom_ge bs y0 (y0 + 1); omega
theorem bits_canon {bs : List Bool} (h : bs.length = 6400) : bits (canon bs) = bs :=
 (bits_eq h fun y x hy hx => by rw [canon, canonFrom_any bs 0 y x hy hx]; simp).symm
theorem canonFrom_len (bs : List Bool) (y : Nat) : (canonFrom bs y).length <= 40 * (80 - y) := by
 rw [canonFrom]
 by_cases h : y < 80
 ·rw [if_pos h, List.length_append, List.length_map]
  have h1 := endFrom_ge bs y (y + 1)
  have h2 := canonFrom_len bs (endFrom bs y (y + 1))
  have h3 := runs_len (gb bs y) 0
  omega
 ·rw [if_neg h]; simp
termination_by 80 - y
decreasing_by have := endFrom_ge bs y (y + 1); omega
theorem canon_len (bs : List Bool) : (canon bs).length <= 3200 := canonFrom_len bs 0
theorem canonFrom_mem (bs : List Bool) (y : Nat) : ∀ r ∈ canonFrom bs y, -40 <= r.x0 ∧ r.x0 < r.x1 ∧ r.x1 <= 40 ∧ -40 <= r.y0 ∧ r.y0 < r.y1 ∧ r.y1 <= 40 := by
 intro r hr
 rw [canonFrom] at hr
 by_cases h : y < 80
 ·rw [if_pos h] at hr
  have h1 := endFrom_ge bs y (y + 1)
  have h2 := endFrom_le bs y (y + 1) (by omega)
  rcases List.mem_append.1 hr with hr | hr
  ·obtain ⟨p, hp, rfl⟩ := List.mem_map.1 hr
   have := runs_mem _ _ p hp
   simp only [mkR]; omega
  ·exact canonFrom_mem bs _ r hr
 ·rw [if_neg h] at hr; cases hr
termination_by 80 - y
decreasing_by have := endFrom_ge bs y (y + 1); omega
def areaR (r : Rect) : Int := (r.x1 - r.x0) * (r.y1 - r.y0)
def areaS : List Rect -> Int
  | [] => 0
  | r :: l => areaR r + areaS l
theorem areaS_append : ∀ (a b : List Rect), areaS (a ++ b) = areaS a + areaS b
 | [], b => by simp [areaS]
 | r :: a, b => by simp only [List.cons_append, areaS, areaS_append a b]; omega
theorem area_map {y e : Nat} (hye : y <= e) : ∀ (l : List (Nat × Nat)), (∀ p ∈ l, p.1 < p.2 ∧ p.2 <= 80) -> areaS (l.map (mkR y e)) = ((wsum l * (e - y) : Nat) : Int)
 | [], _ => by simp [areaS, wsum]
 | p :: l, h => by
  have ih := area_map hye l fun p hp => h p (.tail _ hp)
  have hp := h p (.head _)
  have e1 : areaR (mkR y e p) = (((p.2 - p.1) * (e - y) : Nat) : Int) := by
   simp only [areaR, mkR]
   rw [Int.natCast_mul]; congr 1 <;> omega
  simp only [List.map_cons, areaS, ih, wsum, e1, Nat.add_mul]; omega
theorem areaS_canonFrom (bs : List Bool) (y : Nat) : areaS (canonFrom bs y) <= 80 * ((80 - y : Nat) : Int) := by
 rw [canonFrom]
 by_cases h : y < 80
 ·rw [if_pos h, areaS_append]
  have h1 := endFrom_ge bs y (y + 1)
  have h2 := endFrom_le bs y (y + 1) (by omega)
  have ih := areaS_canonFrom bs (endFrom bs y (y + 1))
  rw [area_map (by omega) _ (runs_mem _ _)]
  have h3 := runs_wsum (gb bs y) 0
  have h4 : wsum (runsFrom (gb bs y) 0) * (endFrom bs y (y + 1) - y) <= 80 * (endFrom bs y (y + 1) - y) := Nat.mul_le_mul_right _ h3
  omega
 ·rw [if_neg h]; simp [areaS]; omega
termination_by 80 - y
decreasing_by have := endFrom_ge bs y (y + 1); omega
theorem areaS_canon (bs : List Bool) : areaS (canon bs) <= 6400 := by
 have := areaS_canonFrom bs 0; rw [canon]; omega
inductive Sch where
  | nil
  | q (i : Nat) (r : Sch)
  | l (i : Nat) (r : Sch)
  | b (i : Nat) (r : Sch) (j : Nat) (s : Sch)
  | c (i : Nat) (r : Sch) (j : Nat) (s : Sch) (k : Nat) (t : Sch)
def Sch.len : Sch -> Nat
  | .nil => 0
  | .q _ r => r.len + 1
  | .l _ r => r.len + 1
  | .b _ r _ _ => r.len + 1
  | .c _ r _ _ _ _ => r.len + 1
def schB (ops : Array Oper) : Sch -> Array Bool -> Bool
  | .nil, ls => (Region.ready .any ops ls).isEmpty
  | .q i r, ls => Region.free .any ops ls i && (Region.ready .any ops ls).contains i && schB ops r (ls.setIfInBounds i true)
  | .l i r, ls => (Region.ready .any ops ls == [i]) && schB ops r (ls.setIfInBounds i true)
  | .b i r j s, ls => (Region.ready .any ops ls == [i, j]) && Nat.beq r.len s.len && schB ops r (ls.setIfInBounds i true) && schB ops s (ls.setIfInBounds j true)
  | .c i r j s k t, ls => (Region.ready .any ops ls == [i, j, k]) && Nat.beq r.len s.len && Nat.beq r.len t.len && schB ops r (ls.setIfInBounds i true) && schB ops s (ls.setIfInBounds j true) && schB ops t (ls.setIfInBounds k true)
def NoP (Q : Post) : Prop := ∀ c σ G L, Q (.panic c) σ G L -> False
section
variable {P : Program} {n : Nat} {ops : Array Oper} {Q : Post} {σ : Nat -> Value} {G G0 : Gh} {L C0 : List Ch} {o oi oj : Oper} {r s : Sch}
@[irreducible] def RH (P : Program) (n : Nat) (ops : Array Oper) (G0 : Gh) (C0 : List Ch) (r : Sch) (Q : Post) (σ : Nat -> Value) (G : Gh) (L : List Ch) : Prop :=
  Region.noSelect ops = true -> opsOk n ops.toList = true -> ∀ ls a w, schB ops r ls = true -> Ag n σ a -> St G L w -> wpAnyH P .any ops (lift n Q) (St G0 C0) r.len ls a w
theorem RH.of (h : Region.noSelect ops = true -> opsOk n ops.toList = true -> ∀ ls a w, schB ops r ls = true -> Ag n σ a -> St G L w -> wpAnyH P .any ops (lift n Q) (St G0 C0) r.len ls a w) : RH P n ops G0 C0 r Q σ G L := by
 unfold RH; exact h
theorem RH.run (h : RH P n ops G0 C0 r Q σ G L) (h1 : Region.noSelect ops = true) (h2 : opsOk n ops.toList = true) {ls : Array Bool} {a : Act} {w : World} (h3 : schB ops r ls = true) (ha : Ag n σ a) (hs : St G L w) : wpAnyH P .any ops (lift n Q) (St G0 C0) r.len ls a w := by
 unfold RH at h; exact h h1 h2 ls a w h3 ha hs
theorem WP.regionH {id : Nat} {l : List Oper} (C0 : List Ch) (r : Sch) (hm : P.follows .mixedOrders = true) (h1 : Region.noSelect l.toArray = true) (h2 : schB l.toArray r (Array.replicate l.length false) = true) (h3 : r.len = l.length)
  (h : RH P n l.toArray G C0 r Q σ G L) : WP P n (.region id l.toArray true) Q σ G L :=
 WP.of fun hk a w ha hs => by
  refine wp_region_held (S := St G C0) hm ?_
  have := h.run h1 (by simpa [codeOk] using hk) h2 ha (w := { w with drawn := w.drawn + 1 }) hs.dr1
  rw [h3] at this
  simpa using this
theorem WP.regionH0 {id : Nat} {l : List Oper} (r : Sch) (hm : P.follows .mixedOrders = true) (h1 : Region.noSelect l.toArray = true) (h2 : schB l.toArray r (Array.replicate l.length false) = true) (h3 : r.len = l.length)
  (h : RH P n l.toArray G L r Q σ G L) : WP P n (.region id l.toArray true) Q σ G L := WP.regionH L r hm h1 h2 h3 h
inductive Dr where
  | s (v : Value)
  | b (k : Nat)
class DropC (ds : List Dr) (L : List Ch) (L' : outParam (List Ch)) : Prop where
  mk ::
instance (L : List Ch) : DropC [] L L := ⟨⟩
instance (v : Value) (ds : List Dr) (L M L' : List Ch) (α : Type) (e : TypeId) (F : FT α) (xs : List α) [ExS v L α e F xs M] [DropC ds M L'] : DropC (.s v :: ds) L L' := ⟨⟩
instance (k : Nat) (ds : List Dr) (L M L' : List Ch) (t : TypeId) (cs : List Value) [ExB k L t cs M] [DropC ds M L'] : DropC (.b k :: ds) L L' := ⟨⟩
theorem WP.regionHD {id : Nat} {l : List Oper} (ds : List Dr) {C0 : List Ch} [DropC ds L C0] (r : Sch) (hm : P.follows .mixedOrders = true) (h1 : Region.noSelect l.toArray = true) (h2 : schB l.toArray r (Array.replicate l.length false) = true) (h3 : r.len = l.length)
  (h : RH P n l.toArray G C0 r Q σ G L) : WP P n (.region id l.toArray true) Q σ G L := WP.regionH C0 r hm h1 h2 h3 h
theorem RH.nil (h : Q .normal σ G L) : RH P n ops G0 C0 .nil Q σ G L :=
 RH.of fun _ _ ls a w hb ha hs => wpAnyH_done (by simpa [schB] using hb) ⟨σ, G, L, ha, hs, h⟩ _
theorem tok_of {i : Nat} (h2 : opsOk n ops.toList = true) (hi : ops[i]? = some oi) : Tok n oi.dst = true := by
 have hm : oi ∈ ops.toList := by
  have := Array.mem_of_getElem? hi
  simpa using this
 exact List.all_eq_true.1 h2 oi hm
theorem RH.step {i : Nat} {v : Value} (hi : ops[i]? = some oi) (hQ : NoP Q) (hg : Gh.le G0 G) (hC : Pick C0 L) (hy : ∀ a, Ag n σ a -> YieldsIf P ops (St G0 C0) oi v a) (k : RH P n ops G0 C0 r Q (updo σ oi.dst v) G L) : RH P n ops G0 C0 (.q i r) Q σ G L :=
 RH.of fun h1 h2 ls a w hb ha hs => by
  simp only [schB, Bool.and_eq_true] at hb
  exact wpAnyH_take hi h1 hb.1.1 hb.1.2 (fun c a w ⟨σ', G', L', _, _, hq⟩ => (hQ c σ' G' L' hq).elim) (hy a ha) (hs.weak hC hg) (k.run h1 h2 hb.2 (ha.put (tok_of h2 hi) v) hs)
theorem RH.pv {i : Nat} {v : Value} (hi : ops[i]? = some oi) (hQ : NoP Q) (hg : Gh.le G0 G) (hC : Pick C0 L) (hn : oi.guard = none) (h : PV P oi σ G0 C0 v) (k : RH P n ops G0 C0 r Q (updo σ oi.dst v) G L) : RH P n ops G0 C0 (.q i r) Q σ G L :=
 RH.step hi hQ hg hC (fun a ha => .inl ⟨by simp [Region.wanted, hn], fun w hs => by rw [ha.eval]; exact h w hs⟩) k
theorem RH.w {P : Program} {n : Nat} {ops : Array Oper} {G0 : Gh} {C0 : List Ch} {r : Sch} {Q : Post} {σ : Nat -> Value} {L : List Ch} {oi : Oper} {i : Nat} {v : Value} [hC : PickC C0 L] (hi : ops[i]? = some oi) (hn : oi.guard = none) (h : PV P oi σ G0 C0 v) (k : RH P n ops G0 C0 r Q (updo σ oi.dst v) G0 L) (hQ : NoP Q := by exact (fun _ _ _ _ h => h)) : RH P n ops G0 C0 (.q i r) Q σ G0 L := RH.pv hi hQ (Gh.le_refl _) PickC.pick hn h k
theorem kp {G : Gh} {A L : List Ch} {p : Prop} [PickC A L] (h : p) : Gh.le G G ∧ Pick A L ∧ p := ⟨Gh.le_refl _, PickC.pick, h⟩
theorem RH.gs {i j t : Nat} {want p : Bool} {v : Value} (hi : ops[i]? = some oi) (hQ : NoP Q) (hg : Gh.le G0 G) (hC : Pick C0 L) (hn : oi.guard = some (j, want)) (hj : (ops[j]?).bind (·.dst) = some t) (hb : σ t = .bool p) (h : (p == want) = true -> PV P oi σ G0 C0 v)
  (k : RH P n ops G0 C0 r Q (updo σ oi.dst (gv (p == want) v)) G L) : RH P n ops G0 C0 (.q i r) Q σ G L := by
 refine RH.step hi hQ hg hC (fun a ha => ?_) k
 by_cases e : p = want
 ·have he : (p == want) = true := by simp [e]
  rw [gt' he]
  refine .inl ⟨?_, fun w hs => by rw [ha.eval]; exact h he w hs⟩
  simp only [Region.wanted, hn, yielded_ag ha hj hb]; simp [e]
 ·have he : (p == want) = false := by simp [e]
  rw [gs_f he]
  refine .inr ⟨?_, rfl⟩
  simp only [Region.wanted, hn, yielded_ag ha hj hb]
  cases p <;> cases want <;> simp_all
theorem RH.one {i : Nat} (h1 : Region.noSelect ops = true) (h2 : opsOk n ops.toList = true) (hi : ops[i]? = some oi) (hn : oi.guard = none) {ls : Array Bool} {a : Act} {w : World} (hb : schB ops r (ls.setIfInBounds i true) = true) (ha : Ag n σ a) (hs : St G L w)
  (h : OT P n oi σ G L fun σ' G' L' => Gh.le G0 G' ∧ Pick C0 L' ∧ RH P n ops G0 C0 r Q σ' G' L') :
  wpOp P ops (lift n Q) i (fun a' w' => St G0 C0 w' ∧ wpAnyH P .any ops (lift n Q) (St G0 C0) r.len (ls.setIfInBounds i true) a' w') a w := by
 unfold wpOp
 simp only [hi]
 rw [if_pos (by simp [Region.wanted, hn])]
 exact .inl (Oper.wp_mono (fun a' w' ⟨σ', G', L', h3, h4, h5, h6, h7⟩ => ⟨h4.weak h6 h5, h7.run h1 h2 hb h3 h4⟩) (h (tok_of h2 hi) a w ha hs _))
theorem RH.ot {i : Nat} (hi : ops[i]? = some oi) (hn : oi.guard = none) (h : OT P n oi σ G L fun σ' G' L' => Gh.le G0 G' ∧ Pick C0 L' ∧ RH P n ops G0 C0 r Q σ' G' L') : RH P n ops G0 C0 (.l i r) Q σ G L :=
 RH.of fun h1 h2 ls a w hb ha hs => by
  simp only [schB, Bool.and_eq_true, beq_iff_eq] at hb
  refine wpAnyH_all hb.1 (by simp) fun x hx => ?_
  obtain rfl : x = i := by simpa using hx
  exact RH.one h1 h2 hi hn hb.2 ha hs h
theorem RH.ot2 {i j : Nat} (hi : ops[i]? = some oi) (hn : oi.guard = none) (hj : ops[j]? = some oj) (hn' : oj.guard = none) (h : OT P n oi σ G L fun σ' G' L' => Gh.le G0 G' ∧ Pick C0 L' ∧ RH P n ops G0 C0 r Q σ' G' L')
  (h' : OT P n oj σ G L fun σ' G' L' => Gh.le G0 G' ∧ Pick C0 L' ∧ RH P n ops G0 C0 s Q σ' G' L') : RH P n ops G0 C0 (.b i r j s) Q σ G L :=
 RH.of fun h1 h2 ls a w hb ha hs => by
  simp only [schB, Bool.and_eq_true, beq_iff_eq] at hb
  refine wpAnyH_all hb.1.1.1 (by simp) fun x hx => ?_
  by_cases e : x = i
  ·subst e; exact RH.one h1 h2 hi hn hb.1.2 ha hs h
  ·obtain rfl : x = j := by
    have : x = i ∨ x = j := by simpa using hx
    exact this.resolve_left e
   have hl : r.len = s.len := Nat.eq_of_beq_eq_true hb.1.1.2
   show wpOp P ops (lift n Q) x (fun a' w' => St G0 C0 w' ∧ wpAnyH P .any ops (lift n Q) (St G0 C0) r.len (ls.setIfInBounds x true) a' w') a w
   rw [hl]
   exact RH.one h1 h2 hj hn' hb.2 ha hs h'
theorem RH.ot3 {ok : Oper} {t : Sch} {i j k : Nat} (hi : ops[i]? = some oi) (hn : oi.guard = none) (hj : ops[j]? = some oj) (hn' : oj.guard = none) (hk : ops[k]? = some ok) (hn'' : ok.guard = none) (h : OT P n oi σ G L fun σ' G' L' => Gh.le G0 G' ∧ Pick C0 L' ∧ RH P n ops G0 C0 r Q σ' G' L')
  (h' : OT P n oj σ G L fun σ' G' L' => Gh.le G0 G' ∧ Pick C0 L' ∧ RH P n ops G0 C0 s Q σ' G' L') (h'' : OT P n ok σ G L fun σ' G' L' => Gh.le G0 G' ∧ Pick C0 L' ∧ RH P n ops G0 C0 t Q σ' G' L') : RH P n ops G0 C0 (.c i r j s k t) Q σ G L :=
 RH.of fun h1 h2 ls a w hb ha hs => by
  simp only [schB, Bool.and_eq_true, beq_iff_eq] at hb
  refine wpAnyH_all hb.1.1.1.1.1 (by simp) fun x hx => ?_
  by_cases e : x = i
  ·subst e; exact RH.one h1 h2 hi hn hb.1.1.2 ha hs h
  ·by_cases e2 : x = j
   ·subst e2
    have hl : r.len = s.len := Nat.eq_of_beq_eq_true hb.1.1.1.1.2
    show wpOp P ops (lift n Q) x (fun a' w' => St G0 C0 w' ∧ wpAnyH P .any ops (lift n Q) (St G0 C0) r.len (ls.setIfInBounds x true) a' w') a w
    rw [hl]
    exact RH.one h1 h2 hj hn' hb.1.2 ha hs h'
   ·obtain rfl : x = k := by
     have : x = i ∨ x = j ∨ x = k := by simpa using hx
     exact (this.resolve_left e).resolve_left e2
    have hl : r.len = t.len := Nat.eq_of_beq_eq_true hb.1.1.1.2
    show wpOp P ops (lift n Q) x (fun a' w' => St G0 C0 w' ∧ wpAnyH P .any ops (lift n Q) (St G0 C0) r.len (ls.setIfInBounds x true) a' w') a w
    rw [hl]
    exact RH.one h1 h2 hk hn'' hb.2 ha hs h''
theorem OT.callF {f : FuncId} {l : List Operand} {ats : Array TypeId} {vs : List Value} {K : (Nat -> Value) -> Gh -> List Ch -> Prop} (ho : o.op = .call { callee := .value (.func f), args := l.toArray, argTypes := ats }) (hE : Ent P f) (ha : cargs σ l = vs)
  (h : CallT P f vs.toArray G L fun v G' L' => K (updo σ o.dst v) G' L') : OT P n o σ G L K :=
 OT.call (first := []) (caps := []) ho rfl hE (by subst ha; simpa using h)
end
theorem Eq101 : EqT Tryz.prog 101 rectT := ⟨by kernel_rfl, fun a b w => by
 rw [eqT_run 9999 _ _ w Tryz.underlying101 (by kernel_rfl)]
 obtain ⟨a0, a1, a2, a3⟩ := a; obtain ⟨b0, b1, b2, b3⟩ := b
 simp only [rectT]
 simp [Op.eqFields, part, isAgg, run_underlying Tryz.underlying2, run_equalIn_int _ _ _ _ _ _ _ Tryz.underlying2]
 by_cases e0 : a0 = b0 <;> by_cases e1 : a1 = b1 <;> by_cases e2 : a2 = b2 <;> by_cases e3 : a3 = b3 <;> simp_all⟩
theorem gb_set {bs : List Bool} {y x y' x' : Nat} {q : Bool} (h : bs.length = 6400) (hy : y < 80) (hx : x < 80) (hx' : x' < 80) : gb (bs.set (y * 80 + x) q) y' x' = if y' = y ∧ x' = x then q else gb bs y' x' := by
 unfold gb gd
 rw [List.getElem?_set]
 by_cases e : y * 80 + x = y' * 80 + x'
 ·have e1 : y' = y ∧ x' = x := by omega
  rw [if_pos e, if_pos e1, if_pos (by omega)]; rfl
 ·have e1 : ¬ (y' = y ∧ x' = x) := by omega
  rw [if_neg e, if_neg e1]
abbrev grd (b : Nat) (bs : List Bool) : Ch := blk b 125 (bv bs)
theorem put_s {b : Nat} {r : Rect} {bs : List Bool} (hl : bs.length = 6400) (k : ∀ bs' : List Bool, bs'.length = 6400 -> (∀ y x, y < 80 -> x < 80 -> gb bs' y x = (gb bs y x || inR r y x)) -> R (.tuple #[]) G (grd b bs' :: L)) :
  CallT Tryz.prog 68 #[.pointer (some ⟨b, 0, none⟩), vrect r] G (grd b bs :: L) R := by
 refine CallT.enter (args := _) Tryz.func68 rfl rfl (by kernel_rfl) rfl ?_
 refine WP.sr ?_
 refine RG.ot rfl (OT.box (cs := rectT.enc r) rfl rfl rfl fun b3 => ?_)
 refine RG.nil (WP.sr (RG.p (PV.field rfl Fo101_1 rfl) (RG.p (PV.load1 rfl Sc2 rfl (Rd.blk rfl)) (RG.p (PV.max2 rfl rfl rfl) (RG.mr rfl (RG.nil (WP.block ?_)))))))
 refine WP.loop2 [0, 3] (fun (y : Int) (cs : List Bool) => max r.y0 (-40) <= y ∧ (y = max r.y0 (-40) ∨ y <= min r.y1 40) ∧ cs.length = 6400 ∧ ∀ y' x', y' < 80 -> x' < 80 -> gb cs y' x' = (gb bs y' x' || (inR r y' x' && decide ((y' : Int) - 40 < y)))) (fun (y : Int) (cs : List Bool) => [(4, vi y)]) (fun (y : Int) (cs : List Bool) => blk b3 101 (rectT.enc r) :: grd b cs :: L) (fun (y : Int) (cs : List Bool) => (40 - y).toNat) (max r.y0 (-40)) bs ⟨by omega, .inl rfl, hl, fun y' x' h1 h2 => by rw [Bool.eq_iff_iff]; simp [inR]; omega⟩ ⟨rfl, trivial⟩ Cv.p ?_
 rintro y cs τ ⟨hy0, hy1, hlc, hc⟩
 refine WP.seq (WP.sr (RG.ml rfl (RG.p (PV.field rfl Fo101_3 rfl) (RG.p (PV.load1 rfl Sc2 rfl (Rd.blk rfl)) (RG.p (PV.min2 rfl rfl rfl) (RG.p (PV.lss rfl rfl rfl) (RG.nil ?_)))))))
 refine WP.cond rfl (fun h1 => ?_) fun h1 => ?_
 ·have h1 := odt h1
  refine WP.skip (WP.seq (WP.block (WP.sr (RG.p (PV.field rfl Fo101_0 rfl) (RG.p (PV.load1 rfl Sc2 rfl (Rd.blk rfl)) (RG.p (PV.max2 rfl rfl rfl) (RG.mr rfl (RG.nil (WP.block ?_)))))))))
  refine WP.loop2 [0, 3, 4] (fun (x : Int) (ds : List Bool) => max r.x0 (-40) <= x ∧ (x = max r.x0 (-40) ∨ x <= min r.x1 40) ∧ ds.length = 6400 ∧ ∀ y' x', y' < 80 -> x' < 80 -> gb ds y' x' = (gb cs y' x' || (decide ((y' : Int) - 40 = y) && decide (r.x0 <= (x' : Int) - 40) && decide ((x' : Int) - 40 < x)))) (fun (x : Int) (ds : List Bool) => [(5, vi x)]) (fun (x : Int) (ds : List Bool) => blk b3 101 (rectT.enc r) :: grd b ds :: L) (fun (x : Int) (ds : List Bool) => (40 - x).toNat) (max r.x0 (-40)) cs ⟨by omega, .inl rfl, hlc, fun y' x' h1 h2 => by rw [Bool.eq_iff_iff]; simp; omega⟩ ⟨rfl, trivial⟩ Cv.p ?_
  rintro x ds σ' ⟨hx0, hx1, hld, hd⟩
  refine WP.seq (WP.sr (RG.ml rfl (RG.p (PV.field rfl Fo101_2 rfl) (RG.p (PV.load1 rfl Sc2 rfl (Rd.blk rfl)) (RG.p (PV.min2 rfl rfl rfl) (RG.p (PV.lss rfl rfl rfl) (RG.nil ?_)))))))
  refine WP.cond rfl (fun h2 => ?_) fun h2 => ?_
  ·have h2 := odt h2
   refine WP.skip (WP.seq (WP.block (WP.region (RG.p (PV.mvP (.inl rfl) rfl) (RG.ml rfl (RG.p (PV.add rfl rfl rfl (by omega)) (RG.ml rfl (RG.p (PV.add rfl rfl rfl (by omega)) (RG.p (PV.nilc rfl rfl) (RG.p (PV.idxA (j := (y + 40).toNat) rfl Ia125 rfl rfl (by omega) (by omega)) (RG.p (PV.idxA (j := (x + 40).toNat) rfl Ia123 rfl rfl (by omega) (by omega)) ?_)))))))))))
   refine RG.ot rfl (OT.storeGr rfl Sz4 rfl rfl rfl (by first | omega | (simp; omega)) ?_)
   refine RG.nil (WP.region (RG.ml rfl (RG.p (PV.add rfl rfl rfl (by omega)) (RG.mr rfl (RG.nil ?_)))))
   refine ⟨rfl, x + 1, (ds.set (0 + (y + 40).toNat * 80 + (x + 40).toNat * 1) true), ⟨by omega, by omega, by simpa using hld, fun y' x' h3 h4 => ?_⟩, ⟨rfl, trivial⟩, ⟨rfl, rfl, rfl, trivial⟩, Cv.p, by omega⟩
   rw [show 0 + (y + 40).toNat * 80 + (x + 40).toNat * 1 = (y + 40).toNat * 80 + (x + 40).toNat by omega, gb_set hld (by omega) (by omega) h4, hd y' x' h3 h4]
   cases gb cs y' x' <;> (rw [Bool.eq_iff_iff]; split <;> simp <;> omega)
  ·have h2 := odf h2
   refine WP.exit (WP.region (RG.ml rfl (RG.p (PV.add rfl rfl rfl (by omega)) (RG.mr rfl (RG.nil ?_)))))
   refine ⟨rfl, y + 1, ds, ⟨by omega, by omega, hld, fun y' x' h3 h4 => ?_⟩, ⟨rfl, trivial⟩, ⟨rfl, rfl, trivial⟩, Cv.p, by omega⟩
   rw [hd y' x' h3 h4, hc y' x' h3 h4]
   cases gb bs y' x' <;> (rw [Bool.eq_iff_iff]; simp [inR]; try omega)
 ·have h1 := odf h1
  refine WP.exit ?_
  refine ⟨_, _, ResV.zero rfl, Cv.p, k cs hlc fun y' x' h3 h4 => ?_⟩
  rw [hc y' x' h3 h4]
  cases gb bs y' x' <;> (rw [Bool.eq_iff_iff]; simp [inR]; try omega)
theorem gb_rep (y x : Nat) : gb (List.replicate 6400 false) y x = false := by
 unfold gb gd
 rw [List.getElem?_replicate]; split <;> rfl
theorem cellsOf_s {v : Value} {xs : List Rect} (h1 : Rs G L rectT v xs) (k : ∀ b, R (.pointer (some ⟨b, 0, none⟩)) G (grd b (bits xs) :: L)) : CallT Tryz.prog 99 #[v] G L R := by
 refine CallT.bd h1 fun hb => ?_
 refine CallT.enter (args := _) Tryz.func99 rfl rfl (by kernel_rfl) rfl ?_
 refine WP.sr (RG.p (PV.asg rfl rfl) (RG.nil (WP.sr (RG.p (PV.build0 rfl Tryz.underlying125 ⟨80, by kernel_rfl⟩ (zeroB_spec (n := 6400) (by kernel_rfl))) ?_))))
 refine RG.ot rfl (OT.boxG rfl rfl fun b7 => ?_)
 refine RG.p (PV.mvP (.inr rfl) rfl) (RG.nil (WP.seq (WP.sr (RG.p (PV.move (v := v) rfl rfl) (RG.p (PV.len (v := v) rfl Tryz.underlying50 rfl (SlF.r h1)) (RG.ml rfl (RG.nil (WP.block ?_))))))))
 refine WP.loop2 [3, 8, 9] (fun i cs => i <= xs.length ∧ cs.length = 6400 ∧ ∀ y x, y < 80 -> x < 80 -> gb cs y x = (xs.take i).any fun r => inR r y x) (fun i cs => [(10, vi i)]) (fun i cs => grd b7 cs :: L) (fun i cs => xs.length - i) 0 (List.replicate 6400 false) ⟨by omega, by simp, fun y x _ _ => by rw [gb_rep]; simp⟩ ⟨rfl, trivial⟩ Cv.p ?_
 rintro i cs τ ⟨hi, hl, hc⟩
 refine WP.sr (RG.p (PV.lss rfl rfl rfl) (RG.nil (WP.seq ?_)))
 refine WP.cond rfl (fun h2 => ?_) fun h2 => ?_
 ·have h2 := odt h2
  refine WP.skip (WP.seq (WP.block (WP.sr (RG.p (PV.idxS (v := v) rfl Is50 rfl (SlF.r h1) rfl rfl (by omega)) (RG.p (PV.loadE rfl Ag101 rfl rfl (El.r h1 (getG (by omega)))) ?_)))))
  refine RG.ot rfl (OT.alloc rfl Zr101 fun b5 => ?_)
  refine RG.ot rfl (OT.storeW (vs := [vi _, vi _, vi _, vi _]) rfl Sz101 rfl rfl (Cl.c rfl) rfl rfl (OneC.c rfl) ?_)
  refine RG.nil (WP.region (RG.p (PV.mvP (.inl rfl) rfl) (RG.p (PV.loadW rfl Ag101 rfl rfl) ?_)))
  refine RG.callF (vs := [(.pointer (some ⟨b7, 0, none⟩)), _]) rfl rfl En68 rfl (CallT.exB (put_s (by assumption) (fun bs' hb' hg' => ?_)))
  refine RG.nil (WP.region (RG.p (PV.add rfl rfl rfl (by omega)) (RG.ml rfl (RG.nil ?_))))
  refine ⟨rfl, i + 1, bs', ⟨by omega, hb', fun y x h3 h4 => ?_⟩, ⟨rfl, trivial⟩, ⟨rfl, rfl, rfl, trivial⟩, Cv.p, by omega⟩
  rw [hg' y x h3 h4, hc y x h3 h4, List.take_add_one, getG (by omega)]; simp
 ·have h2 := odf h2
  have e : cs = bits xs := bits_eq hl fun y x h3 h4 => by rw [hc y x h3 h4, List.take_of_length_le (by omega)]
  subst e
  refine WP.exit (WP.sr (RG.p (PV.mvP (.inl rfl) rfl) (RG.p (PV.mvP (.inr rfl) rfl) (RG.nil ?_))))
  exact WP.ret ⟨_, _, rv rfl rfl, Cv.p, k b7⟩
theorem rowsEq_gb {bs : List Bool} {e y : Nat} (h : bs.length = 6400) (he : e < 80) (hy : y < 80) : decide ((bs.drop (0 + e * 80)).take 80 = (bs.drop (0 + y * 80)).take 80) = rowsEq bs e y := by
 rw [Nat.zero_add, Nat.zero_add]; exact rowL_eq h he hy
theorem region_s {b : Nat} {bs : List Bool} (hl : bs.length = 6400) (k : ∀ v, R v G (osl 101 rectT v (canon bs) :: grd b bs :: L)) :
  CallT Tryz.prog 69 #[.pointer (some ⟨b, 0, none⟩)] G (grd b bs :: L) R := by
 refine CallT.enter (args := _) Tryz.func69 rfl rfl (by kernel_rfl) rfl ?_
 refine WP.sr (RG.p (PV.asg rfl rfl) (RG.nil (WP.sr ?_)))
 refine RG.ot rfl (OT.bslice (F := rectT) (els := []) rfl El50 rfl (by decide) rfl (by decide) trivial fun v8 => ?_)
 refine RG.p (PV.asg (v := v8) rfl rfl) (RG.nil (WP.seq (WP.sr (RG.mr rfl (RG.nil (WP.block ?_))))))
 refine WP.loop3 [0] (fun (y : Nat) (out : List Rect) (v : Value) => y <= 80 ∧ canon bs = out ++ canonFrom bs y ∧ out.length <= 81 * y) (fun (y : Nat) (out : List Rect) (v : Value) => [(4, vi y), (3, v)]) (fun (y : Nat) (out : List Rect) (v : Value) => osl 101 rectT v out :: grd b bs :: L) (fun (y : Nat) (out : List Rect) (v : Value) => 80 - y) 0 [] v8 ⟨by omega, rfl, by simp⟩ ⟨rfl, rfl, trivial⟩ Cv.p ?_
 rintro y out v τ ⟨hy, hc, hlen⟩
 refine WP.seq (WP.sr (RG.ml rfl (RG.p (PV.lss rfl rfl rfl) (RG.nil ?_))))
 refine WP.cond rfl (fun h1 => ?_) fun h1 => ?_
 ·have h1 := odt h1
  have hy8 : y < 80 := by omega
  refine WP.skip (WP.block (WP.sr (RG.ml rfl (RG.p (PV.add rfl rfl rfl (by omega)) (RG.mr rfl (RG.nil (WP.seq (WP.block ?_))))))))
  refine WP.loop1 [0, 3, 4] (fun (e : Nat) => y + 1 <= e ∧ e <= 80 ∧ endFrom bs y (y + 1) = endFrom bs y e) (fun (e : Nat) => [(5, vi e)]) (fun (e : Nat) => osl 101 rectT v out :: grd b bs :: L) (fun (e : Nat) => 80 - e) (y + 1) ⟨by omega, by omega, rfl⟩ ⟨rfl, trivial⟩ Cv.p ?_
  rintro e σ1 ⟨he0, he1, hee⟩
  refine WP.seq (WP.seq ?_)
  refine WP.regionQ (by kernel_rfl) (by kernel_rfl) ?_
  refine RQ.pv rfl (PV.mvI (.inl rfl) rfl) (RQ.pv rfl (PV.lss rfl rfl rfl) (RQ.pv rfl (PV.mvB (.inl rfl) rfl) (RQ.gs rfl rfl rfl (fun hp => (PV.mvP (.inl rfl) rfl)) (RQ.gs rfl rfl rfl (fun hp => (PV.mvI (.inl rfl) rfl)) (RQ.gs rfl rfl rfl (fun hp => (PV.nilc rfl (gt' hp))) (RQ.gs rfl rfl rfl (fun hp => (PV.idxA rfl Ia125 (gt' hp) (gt' hp) rfl (by first | omega | (simp at hp; omega)))) (RQ.gs rfl rfl rfl (fun hp => (PV.loadRow rfl Ag123 (gt' hp) rfl (by first | omega | (simp at hp; omega)))) (RQ.gs rfl rfl rfl (fun hp => (PV.mvP (.inl rfl) rfl)) (RQ.gs rfl rfl rfl (fun hp => (PV.mvI (.inl rfl) rfl)) (RQ.gs rfl rfl rfl (fun hp => (PV.nilc rfl (gt' hp))) (RQ.gs rfl rfl rfl (fun hp => (PV.idxA rfl Ia125 (gt' hp) (gt' hp) rfl (by first | omega | (simp at hp; omega)))) (RQ.gs rfl rfl rfl (fun hp => (PV.loadRow rfl Ag123 (gt' hp) rfl (by first | omega | (simp at hp; omega)))) (RQ.gs rfl rfl rfl (fun hp => (PV.eqlRow rfl Tryz.underlying123 Tryz.underlying4 Sz4 (by kernel_rfl) (gt' hp) (gt' hp) (by first | (simp; omega) | (simp at hp; simp; omega)) (by first | (simp; omega) | (simp at hp; simp; omega)))) ?_)))))))))))))
  refine RQ.pv rfl (PV.pickA rfl rfl (fun hq => gt' (geqT hq)) rfl) (RQ.nil ?_)
  refine WP.cond rfl (fun h2 => ?_) fun h2 => ?_
  ·simp only [Bool.and_eq_true, decide_eq_true_eq] at h2
   refine WP.skip (WP.block (WP.region (RG.ml rfl (RG.p (PV.add rfl rfl rfl (by omega)) (RG.mr rfl (RG.nil ?_))))))
   refine ⟨rfl, e + 1, ⟨by omega, by omega, ?_⟩, ⟨rfl, trivial⟩, ⟨rfl, rfl, rfl, trivial⟩, Cv.p, by omega⟩
   rw [hee, endFrom, if_pos ⟨by omega, by rw [<- rowsEq_gb hl (by omega) hy8]; simpa using h2.2⟩]
  ·have h3 : endFrom bs y (y + 1) = e := by
    rw [hee, endFrom, if_neg]
    rintro ⟨h4, h5⟩
    rw [<- rowsEq_gb hl h4 hy8] at h5
    simp at h2 h5; exact h2 (by omega) h5
   refine WP.exit (WP.seq (WP.sr (RG.mr rfl (RG.nil (WP.block ?_)))))
   refine WP.loop3 [0, 4, 5] (fun (x : Nat) (out' : List Rect) (v' : Value) => x <= 81 ∧ out ++ (runsFrom (gb bs y) 0).map (mkR y e) = out' ++ (runsFrom (gb bs y) x).map (mkR y e) ∧ out'.length <= out.length + x) (fun (x : Nat) (out' : List Rect) (v' : Value) => [(6, vi x), (3, v')]) (fun (x : Nat) (out' : List Rect) (v' : Value) => osl 101 rectT v' out' :: grd b bs :: L) (fun (x : Nat) (out' : List Rect) (v' : Value) => 81 - x) 0 out v ⟨by omega, rfl, by omega⟩ ⟨rfl, rfl, trivial⟩ Cv.p ?_
   rintro x out' v' σ2 ⟨hx, ho, hl2⟩
   refine WP.seq (WP.sr (RG.ml rfl (RG.p (PV.lss rfl rfl rfl) (RG.nil ?_))))
   refine WP.cond rfl (fun h4 => ?_) fun h4 => ?_
   ·have h4 := odt h4
    have hx8 : x < 80 := by omega
    refine WP.skip (WP.seq (WP.block (WP.seq (WP.sr (RG.p (PV.mvP (.inl rfl) rfl) (RG.ml rfl (RG.ml rfl (RG.p (PV.nilc rfl rfl) (RG.p (PV.idxA rfl Ia125 rfl rfl rfl (by omega)) (RG.p (PV.idxA rfl Ia123 rfl rfl rfl (by omega)) (RG.p (PV.loadGr rfl Sc4 rfl rfl (by omega)) (RG.p (PV.not rfl rfl) ?_))))))))))))
    refine RG.nil ?_
    refine WP.cond rfl (fun h5 => ?_) fun h5 => ?_
    ·have h6 : gb bs y x = false := by simpa [gb] using h5
     refine WP.exit (WP.region (RG.ml rfl (RG.p (PV.add rfl rfl rfl (by omega)) (RG.mr rfl (RG.nil ?_)))))
     refine ⟨rfl, x + 1, out', v', ⟨by omega, ?_, by omega⟩, ⟨rfl, rfl, trivial⟩, ⟨rfl, rfl, rfl, trivial⟩, Cv.p, by omega⟩
     rw [ho, runsFrom, if_pos hx8, if_neg (by simp [h6])]
    ·have h6 : gb bs y x = true := by simpa [gb] using h5
     refine WP.skip (WP.sr (RG.ml rfl (RG.mr rfl (RG.nil (WP.seq (WP.block ?_))))))
     refine WP.loop1 [0, 3, 4, 5, 7] (fun (f : Nat) => x <= f ∧ f <= 80 ∧ runEnd (gb bs y) x = runEnd (gb bs y) f) (fun (f : Nat) => [(6, vi f)]) (fun (f : Nat) => osl 101 rectT v' out' :: grd b bs :: L) (fun (f : Nat) => 80 - f) x ⟨by omega, by omega, rfl⟩ ⟨rfl, trivial⟩ Cv.p ?_
     rintro f σ3 ⟨hf0, hf1, hf⟩
     refine WP.seq (WP.sr (RG.ml rfl (RG.p (PV.lss rfl rfl rfl) (RG.bl rfl ?_))))
     refine RG.g rfl (fun hp => (PV.mvP (.inl rfl) rfl)) ?_
     refine RG.g rfl (fun hp => (PV.mvI (.inl rfl) rfl)) ?_
     refine RG.g rfl (fun hp => (PV.mvI (.inl rfl) rfl)) ?_
     refine RG.g rfl (fun hp => (PV.nilc rfl (gt' hp))) ?_
     refine RG.g rfl (fun hp => (PV.idxA rfl Ia125 (gt' hp) (gt' hp) rfl (by first | omega | (simp at hp; omega)))) ?_
     refine RG.g rfl (fun hp => (PV.idxA rfl Ia123 (gt' hp) (gt' hp) rfl (by first | omega | (simp at hp; omega)))) ?_
     refine RG.g rfl (fun hp => (PV.loadGr rfl Sc4 (gt' hp) rfl (by first | omega | (simp at hp; omega)))) ?_
     refine RG.p (PV.pickA rfl rfl (fun hq => gt' (geqT hq)) rfl) (RG.nil ?_)
     refine WP.cond rfl (fun h7 => ?_) fun h7 => ?_
     ·simp only [Bool.and_eq_true, decide_eq_true_eq] at h7
      refine WP.skip (WP.block (WP.region (RG.ml rfl (RG.p (PV.add rfl rfl rfl (by omega)) (RG.mr rfl (RG.nil ?_))))))
      refine ⟨rfl, f + 1, ⟨by omega, by omega, ?_⟩, ⟨rfl, trivial⟩, ⟨rfl, rfl, rfl, rfl, rfl, trivial⟩, Cv.p, by omega⟩
      rw [hf, runEnd, if_pos ⟨by omega, by simpa [gb] using h7.2⟩]
     ·have h8 : runEnd (gb bs y) x = f := by
       rw [hf, runEnd, if_neg]
       rintro ⟨h9, h10⟩
       simp [gb] at h7 h10; exact absurd h10 (by simp [h7 (by omega)])
      refine WP.exit (WP.region (RG.p (PV.move (v := v') rfl rfl) (RG.ml rfl (RG.p (PV.sub rfl rfl rfl (by omega)) (RG.ml rfl (RG.p (PV.sub rfl rfl rfl (by omega)) (RG.ml rfl (RG.p (PV.sub rfl rfl rfl (by omega)) (RG.ml rfl (RG.p (PV.sub rfl rfl rfl (by omega)) (RG.p (PV.build (vs := [(0, [vi _]), (1, [vi _]), (2, [vi _]), (3, [vi _])]) (out := [_, _, _, _]) rfl Zr101 Pl101 ⟨rfl, (Cl.c rfl), ⟨rfl, (Cl.c rfl), ⟨rfl, (Cl.c rfl), ⟨rfl, (Cl.c rfl), trivial⟩⟩⟩⟩ rfl) ?_)))))))))))
      refine RG.ot rfl (OT.bslice (F := rectT) (els := [⟨_, _, _, _⟩]) rfl El50 rfl (by decide) rfl (by decide) ⟨rfl, (Cl.c rfl), trivial⟩ fun v66 => ?_)
      refine RG.ot rfl (OT.append (v := v') (u := v66) (F := rectT) rfl El50 rfl (by decide) rfl rfl Rs.o (OneL.c (fun _ => rfl)) rfl (by first | omega | (simp <;> omega)) fun v67 => ?_)
      refine RG.p (PV.asg (v := v67) rfl rfl) (RG.nil (WP.region (RG.ml rfl (RG.p (PV.add rfl rfl rfl (by omega)) (RG.mr rfl (RG.nil ?_))))))
      refine ⟨rfl, f + 1, (out' ++ [⟨(x : Int) - 40, (y : Int) - 40, (f : Int) - 40, (e : Int) - 40⟩]), v67, ⟨by omega, ?_, by simp; omega⟩, ⟨rfl, rfl, trivial⟩, ⟨rfl, rfl, rfl, trivial⟩, Cv.p, by omega⟩
      rw [ho, runsFrom, if_pos hx8, if_pos h6]
      rw [runEnd, if_pos ⟨hx8, h6⟩] at h8
      simp [h8, mkR]
   ·have h4 := odf h4
    refine WP.exit (WP.region (RG.ml rfl (RG.mr rfl (RG.nil ?_))))
    refine ⟨rfl, e, out', v', ⟨by omega, ?_, by omega⟩, ⟨rfl, rfl, trivial⟩, ⟨rfl, trivial⟩, Cv.p, by omega⟩
    have e1 : canonFrom bs y = (runsFrom (gb bs y) 0).map (mkR y e) ++ canonFrom bs e := by rw [canonFrom, if_pos hy8, h3]
    have e2 : runsFrom (gb bs y) x = [] := by rw [runsFrom, if_neg (by omega)]
    rw [hc, e1, <- List.append_assoc, ho, e2]; simp
 ·have h1 := odf h1
  have e : out = canon bs := by rw [hc, canonFrom, if_neg (by omega), List.append_nil]
  rw [e]
  refine WP.exit (WP.sr (RG.p (PV.move (v := v) rfl rfl) (RG.p (PV.asg (v := v) rfl rfl) (RG.nil ?_))))
  exact WP.ret ⟨_, _, rv rfl rfl, Cv.p, k v⟩
def validRs (xs : List Rect) : Bool := decide (xs.length <= 3200) && xs.all validRect
theorem validRs_false {xs : List Rect} {i : Nat} (h : i < xs.length) (e : validRect (gd xs i) = false) : validRs xs = false := by
 simp only [validRs, Bool.and_eq_false_iff]
 refine .inr ?_
 rw [List.all_eq_false]
 exact ⟨gd xs i, by rw [gd_eq h]; exact List.getElem_mem h, by simp [e]⟩
theorem validRs_true {xs : List Rect} (h0 : xs.length <= 3200) (h : ∀ i, i < xs.length -> validRect (gd xs i) = true) : validRs xs = true := by
 simp only [validRs, Bool.and_eq_true, decide_eq_true_eq, List.all_eq_true]
 refine ⟨h0, fun x hx => ?_⟩
 obtain ⟨i, hi, rfl⟩ := List.getElem_of_mem hx
 rw [<- gd_eq hi]; exact h i hi
theorem validRects_s {v : Value} {xs : List Rect} (h1 : Rs G L rectT v xs) (k : R (.bool (validRs xs)) G L) : CallT Tryz.prog 117 #[v] G L R := by
 refine CallT.bd h1 fun hb => ?_
 refine CallT.enter (args := _) Tryz.func117 rfl rfl (by kernel_rfl) rfl ?_
 refine WP.sr (RG.br rfl (RG.nil (WP.seq (WP.sr (RG.p (PV.move (v := v) rfl rfl) (RG.p (PV.len (v := v) rfl Tryz.underlying50 rfl (SlF.r h1)) (RG.p (PV.gtr rfl rfl rfl) (RG.nil ?_))))))))
 refine WP.cond rfl (fun h2 => ?_) fun h2 => ?_
 ·have e : validRs xs = false := by simp [validRs] at h2 ⊢; omega
  rw [e] at k
  refine WP.sr (RG.br rfl (RG.nil ?_))
  exact WP.ret ⟨_, _, rv rfl rfl, Cv.p, k⟩
 ·have h2 : xs.length <= 3200 := by simp at h2; omega
  refine WP.skip (WP.seq (WP.sr (RG.p (PV.move (v := v) rfl rfl) (RG.p (PV.len (v := v) rfl Tryz.underlying50 rfl (SlF.r h1)) (RG.ml rfl (RG.nil (WP.block ?_)))))))
  refine WP.loop1 [8, 9] (fun i => i <= xs.length ∧ ∀ j, j < i -> validRect (gd xs j) = true) (fun i => [(10, vi i)]) (fun i => L) (fun i => xs.length - i) 0 ⟨by omega, fun j h => by omega⟩ ⟨rfl, trivial⟩ Cv.p ?_
  rintro i τ ⟨hi, hv⟩
  refine WP.sr (RG.p (PV.lss rfl rfl rfl) (RG.nil (WP.seq ?_)))
  refine WP.cond rfl (fun h3 => ?_) fun h3 => ?_
  ·have h3 := odt h3
   refine WP.skip (WP.seq (WP.block (WP.sr (RG.p (PV.idxS (v := v) rfl Is50 rfl (SlF.r h1) rfl rfl (by omega)) (RG.p (PV.loadE rfl Ag101 rfl rfl (El.r h1 (getG (by omega)))) ?_)))))
   refine RG.ot rfl (OT.alloc rfl Zr101 fun b4 => ?_)
   refine RG.ot rfl (OT.storeW (vs := [vi _, vi _, vi _, vi _]) rfl Sz101 rfl rfl (Cl.c rfl) rfl rfl (OneC.c rfl) ?_)
   refine RG.nil (WP.sr (RG.p (PV.loadW rfl Ag101 rfl rfl) ?_))
   refine RG.callF (vs := [_]) rfl rfl En67 rfl (validRect_s ?_)
   refine RG.p (PV.not rfl rfl) (RG.nil ?_)
   refine WP.cond rfl (fun h4 => ?_) fun h4 => ?_
   ·rw [validRs_false (i := i) (by omega) (by simpa using h4)] at k
    refine WP.sr (RG.br rfl (RG.nil ?_))
    exact WP.ret ⟨_, _, rv rfl rfl, Cv.p, k⟩
   ·have hv' : ∀ j, j < i + 1 -> validRect (gd xs j) = true := fun j h => by
     by_cases c : j = i
     ·subst c; simpa using h4
     ·exact hv j (by omega)
    refine WP.skip (WP.region (RG.p (PV.add rfl rfl rfl (by omega)) (RG.ml rfl (RG.nil ?_))))
    exact ⟨rfl, i + 1, ⟨by omega, hv'⟩, ⟨rfl, trivial⟩, ⟨rfl, rfl, trivial⟩, Cv.p, by omega⟩
  ·have h3 := odf h3
   rw [validRs_true h2 (fun i h => hv i (by omega))] at k
   refine WP.exit (WP.sr (RG.br rfl (RG.nil ?_)))
   exact WP.ret ⟨_, _, rv rfl rfl, Cv.p, k⟩
theorem equal_s {v u : Value} {xs ys : List Rect} (h1 : Rs G L rectT v xs) (h2 : Rs G L rectT u ys) (k : R (.bool (decide (xs = ys))) G L) : CallT Tryz.prog 118 #[v, u] G L R := by
 refine CallT.bd h1 fun hb => ?_
 refine CallT.bd h2 fun hb' => ?_
 refine CallT.enter (args := _) Tryz.func118 rfl rfl (by kernel_rfl) rfl ?_
 refine WP.sr (RG.br rfl (RG.nil (WP.seq (WP.sr (RG.p (PV.move (v := v) rfl rfl) (RG.p (PV.len (v := v) rfl Tryz.underlying50 rfl (SlF.r h1)) (RG.p (PV.move (v := u) rfl rfl) (RG.p (PV.len (v := u) rfl Tryz.underlying50 rfl (SlF.r h2)) (RG.p (PV.neq rfl rfl rfl) (RG.nil ?_))))))))))
 refine WP.cond rfl (fun h3 => ?_) fun h3 => ?_
 ·have e : decide (xs = ys) = false := by
   rw [decide_eq_false_iff_not]; rintro rfl; simp at h3
  rw [e] at k
  refine WP.sr (RG.br rfl (RG.nil ?_))
  exact WP.ret ⟨_, _, rv rfl rfl, Cv.p, k⟩
 ·have hl : xs.length = ys.length := by simp at h3; omega
  refine WP.skip (WP.seq (WP.sr (RG.p (PV.move (v := v) rfl rfl) (RG.p (PV.len (v := v) rfl Tryz.underlying50 rfl (SlF.r h1)) (RG.ml rfl (RG.nil (WP.block ?_)))))))
  refine WP.loop1 [0, 1, 12] (fun i => i <= xs.length ∧ ∀ j, j < i -> xs[j]? = ys[j]?) (fun i => [(13, vi i)]) (fun i => L) (fun i => xs.length - i) 0 ⟨by omega, fun j h => by omega⟩ ⟨rfl, trivial⟩ Cv.p ?_
  rintro i τ ⟨hi, he⟩
  refine WP.sr (RG.p (PV.lss rfl rfl rfl) (RG.nil (WP.seq ?_)))
  refine WP.cond rfl (fun h4 => ?_) fun h4 => ?_
  ·have h4 := odt h4
   have h5 : i < xs.length := by omega
   refine WP.skip (WP.seq (WP.block (WP.sr (RG.ml rfl (RG.mr rfl (RG.nil (WP.seq ?_)))))))
   refine WP.regionQ (by kernel_rfl) (by kernel_rfl) ?_
   refine RQ.pv rfl (PV.move (v := v) rfl rfl) (RQ.pv rfl (PV.mvI (.inl rfl) rfl) (RQ.pv rfl (PV.idxS (v := v) rfl Is50 rfl (SlF.r h1) rfl rfl (by omega)) (RQ.pv rfl (PV.loadE rfl Ag101 rfl rfl (El.r h1 (getG (by omega)))) (RQ.pv rfl (PV.move (v := u) rfl rfl) (RQ.pv rfl (PV.mvI (.inl rfl) rfl) (RQ.pv rfl (PV.idxS (v := u) rfl Is50 rfl (SlF.r h2) rfl rfl (by omega)) (RQ.pv rfl (PV.loadE rfl Ag101 rfl rfl (El.r h2 (getG (by omega)))) (RQ.pv rfl (PV.neqT rfl Eq101 rfl rfl) (RQ.nil ?_)))))))))
   refine WP.cond rfl (fun h6 => ?_) fun h6 => ?_
   ·have e : decide (xs = ys) = false := by
     rw [decide_eq_false_iff_not]; rintro rfl; simp at h6
    rw [e] at k
    refine WP.sr (RG.br rfl (RG.nil ?_))
    exact WP.ret ⟨_, _, rv rfl rfl, Cv.p, k⟩
   ·have e : gd xs i = gd ys i := by simpa using h6
    have he' : ∀ j, j < i + 1 -> xs[j]? = ys[j]? := fun j h => by
     by_cases c : j = i
     ·rw [c, getG h5, getG (show i < ys.length by omega), e]
     ·exact he j (by omega)
    refine WP.skip (WP.region (RG.p (PV.add rfl rfl rfl (by omega)) (RG.ml rfl (RG.nil ?_))))
    exact ⟨rfl, i + 1, ⟨by omega, he'⟩, ⟨rfl, trivial⟩, ⟨rfl, rfl, rfl, trivial⟩, Cv.p, by omega⟩
  ·have h4 := odf h4
   have e : decide (xs = ys) = true := by
    rw [decide_eq_true_iff]; exact pre_eq he hl (by omega)
   rw [e] at k
   refine WP.exit (WP.sr (RG.br rfl (RG.nil ?_)))
   exact WP.ret ⟨_, _, rv rfl rfl, Cv.p, k⟩
def isReg (xs : List Rect) : Bool := validRs xs && decide (canon (bits xs) = xs)
theorem isRegion_s {v : Value} {xs : List Rect} (h1 : Rs G L rectT v xs) (k : R (.bool (isReg xs)) G L) : CallT Tryz.prog 72 #[v] G L R := by
 refine CallT.enter (args := _) Tryz.func72 rfl rfl (by kernel_rfl) rfl ?_
 refine WP.sr (RG.br rfl (RG.nil (WP.sr (RG.p (PV.move (v := v) rfl rfl) ?_))))
 refine RG.callF (vs := [v]) rfl rfl En117 rfl (validRects_s (Rs.up h1) ?_)
 refine RG.bl rfl ?_
 refine RG.spl (t := 5) rfl (fun h2 => ?_) (fun h2 => ?_)
 ·have e : isReg xs = decide (canon (bits xs) = xs) := by simp [isReg, h2]
  rw [e] at k
  refine RG.take rfl rfl rfl h2 ?_
  refine RG.p (PV.move (v := v) rfl rfl) ?_
  refine RG.take rfl rfl rfl h2 ?_
  refine RG.callF (vs := [v]) rfl rfl En99 rfl (cellsOf_s (Rs.up h1) (fun b7 => ?_))
  refine RG.take rfl rfl rfl h2 ?_
  refine RG.callF (vs := [_]) rfl rfl En69 rfl (CallT.exB (region_s (bits_length _) (fun v8 => ?_)))
  refine RG.take rfl rfl rfl h2 ?_
  refine RG.p (PV.move (v := v) rfl rfl) ?_
  refine RG.take rfl rfl rfl h2 ?_
  refine RG.callF (vs := [v8, v]) rfl rfl En118 rfl (equal_s Rs.o (Rs.up h1) ?_)
  refine RG.p (PV.pickT rfl rfl h2 rfl) (RG.br rfl (RG.nil ?_))
  exact WP.ret ⟨_, _, rv rfl rfl, Cv.p, k⟩
 ·have e : isReg xs = false := by simp [isReg, h2]
  rw [e] at k
  refine RG.skip rfl rfl rfl (gne h2) ?_
  refine RG.skip rfl rfl rfl (gne h2) ?_
  refine RG.skip rfl rfl rfl (gne h2) ?_
  refine RG.skip rfl rfl rfl (gne h2) ?_
  refine RG.skip rfl rfl rfl (gne h2) ?_
  refine RG.p (PV.pickE rfl rfl h2 rfl) (RG.br rfl (RG.nil ?_))
  exact WP.ret ⟨_, _, rv rfl rfl, Cv.p, k⟩
theorem l03At_s {x y : Int} (hx : -1000 <= x ∧ x <= 1000 ∧ -1000 <= y ∧ y <= 1000) (k : R (vi ((y + 40) * 80 + x + 40)) G L) : CallT Tryz.prog 151 #[vi x, vi y] G L R := by
 refine CallT.enter (args := _) Tryz.func151 rfl rfl (by kernel_rfl) rfl ?_
 refine WP.sr (RG.mr rfl (RG.nil (WP.sr (RG.ml rfl (RG.p (PV.add rfl rfl rfl (by omega)) (RG.p (PV.mul rfl rfl rfl (by omega)) (RG.ml rfl (RG.p (PV.add rfl rfl rfl (by omega)) (RG.p (PV.add rfl rfl rfl (by omega)) (RG.mr rfl (RG.nil ?_)))))))))))
 exact WP.ret ⟨_, _, rv rfl rfl, Cv.p, k⟩
def hasI (bs : List Bool) (x y : Int) : Bool := within x (-40) 39 && within y (-40) 39 && gd bs ((y + 40) * 80 + x + 40).toNat
theorem l03Has_s {v : Value} {bs : List Bool} {x y : Int} (h1 : Rs G L boolT v bs) (hl : bs.length = 6400) (k : R (.bool (hasI bs x y)) G L) : CallT Tryz.prog 202 #[v, vi x, vi y] G L R := by
 refine CallT.enter (args := _) Tryz.func202 rfl rfl (by kernel_rfl) rfl ?_
 refine WP.sr (RG.br rfl (RG.nil (WP.sr (RG.ml rfl ?_))))
 refine RG.callF (vs := [_, _, _]) rfl rfl En79 rfl (l01In_s ?_)
 refine RG.bl rfl ?_
 refine RG.g rfl (fun hp => (PV.mvI (.inl rfl) rfl)) ?_
 refine RG.gsC rfl rfl rfl rfl En79 (fun hp => ⟨_, (acons (gt' hp) (acons rfl (acons rfl anil))), l01In_s ⟨rfl, rfl, rfl⟩⟩) ?_
 refine RG.p (PV.pickA rfl rfl (fun hq => gt' (geqT hq)) rfl) (RG.bl rfl ?_)
 refine RG.g rfl (fun hp => (PV.move (v := v) rfl rfl)) ?_
 refine RG.g rfl (fun hp => (PV.mvI (.inl rfl) rfl)) ?_
 refine RG.g rfl (fun hp => (PV.mvI (.inl rfl) rfl)) ?_
 refine RG.gsC rfl rfl rfl rfl En151 (fun hp => ⟨_, (acons (gt' hp) (acons (gt' hp) anil)), l03At_s (by first | omega | (simp [within] at hp; omega)) ⟨rfl, rfl, rfl⟩⟩) ?_
 refine RG.g rfl (fun hp => (PV.idxS (j := ((y + 40) * 80 + x + 40).toNat) (v := v) rfl Is148 (gt' hp) (SlF.r h1) (gt' hp) (by first | omega | (simp [within] at hp; omega)) (by first | omega | (simp [within] at hp; omega)))) ?_
 refine RG.g rfl (fun hp => (PV.loadE1 rfl Sc4 (gt' hp) rfl (El.r h1 (getG (by first | omega | (simp [within] at hp; omega)))) rfl)) ?_
 refine RG.p (PV.pickA rfl rfl (fun hq => gt' (geqT hq)) rfl) (RG.br rfl (RG.nil ?_))
 exact WP.ret ⟨_, _, rv rfl rfl, Cv.p, k⟩
theorem hasI_has {bs : List Bool} {x y : Int} (hy : -40 <= y ∧ y <= 39) (hx : -40 <= x) : hasI bs x y = has (gb bs (y + 40).toNat) (x + 40).toNat := by
 have e : ((y + 40) * 80 + x + 40).toNat = (y + 40).toNat * 80 + (x + 40).toNat := by omega
 simp only [hasI, within, has, gb, e]
 congr 1
 rw [Bool.eq_iff_iff]; simp; omega
theorem hasI_prev {bs : List Bool} {x y : Int} (hy : -40 <= y ∧ y <= 39) (hx : -40 <= x) : hasI bs (x - 1) y = prev (gb bs (y + 40).toNat) (x + 40).toNat := by
 by_cases h : x = -40
 ·subst h; simp [hasI, within, prev]
 ·rw [hasI_has hy (by omega), prev]
  have e : (x - 1 + 40).toNat = (x + 40).toNat - 1 := by omega
  have e2 : decide (0 < (x + 40).toNat) = true := by simp; omega
  rw [e, e2, Bool.true_and]
def toI (n : Nat) : Int := (n : Int) - 40
def runsI (bs : List Bool) (y : Int) : List Int := (trans (gb bs (y + 40).toNat)).map toI
theorem trans_len (r : Nat -> Bool) : (trans r).length <= 81 := by
 have := List.length_filter_le (tr r) (List.range 81); simpa [trans] using this
theorem filter_len (p : Nat -> Bool) (n : Nat) : ((List.range n).filter p).length <= n := by
 have := List.length_filter_le p (List.range n); simpa using this
theorem l03Runs_s {v : Value} {bs : List Bool} {y : Int} (h1 : Rs G L boolT v bs) (hl : bs.length = 6400) (hy : -40 <= y ∧ y <= 39) (k : ∀ v', R v' G (osl 2 intT v' (runsI bs y) :: L)) : CallT Tryz.prog 149 #[v, vi y] G L R := by
 refine CallT.enter (args := _) Tryz.func149 rfl rfl (by kernel_rfl) rfl ?_
 refine WP.sr (RG.p (PV.asg rfl rfl) (RG.nil (WP.sr ?_)))
 refine RG.ot rfl (OT.bslice (F := intT) (els := []) rfl El45 rfl (by decide) rfl (by decide) trivial fun v7 => ?_)
 refine RG.p (PV.asg (v := v7) rfl rfl) (RG.nil (WP.seq (WP.sr (RG.mr rfl (RG.nil (WP.block ?_))))))
 refine WP.loop3 [0, 1] (fun (x : Int) (out : List Int) (v' : Value) => -40 <= x ∧ x <= 41 ∧ out = ((List.range (x + 40).toNat).filter (tr (gb bs (y + 40).toNat))).map toI ∧ out.length <= 81) (fun (x : Int) (out : List Int) (v' : Value) => [(6, vi x), (5, v')]) (fun (x : Int) (out : List Int) (v' : Value) => osl 2 intT v' out :: L) (fun (x : Int) (out : List Int) (v' : Value) => (41 - x).toNat) (-40) [] v7 ⟨by omega, by omega, by simp, by simp⟩ ⟨rfl, rfl, trivial⟩ Cv.p ?_
 rintro x out v' τ ⟨hx0, hx1, ho, hlen⟩
 refine WP.seq (WP.sr (RG.ml rfl (RG.p (PV.leq rfl rfl rfl) (RG.nil ?_))))
 refine WP.cond rfl (fun h2 => ?_) fun h2 => ?_
 ·have h2 := odt h2
  have e0 : (x + 1 + 40).toNat = (x + 40).toNat + 1 := by omega
  have e1 := hasI_has (bs := bs) (x := x) hy hx0
  have e2 := hasI_prev (bs := bs) (x := x) hy hx0
  have hlen' : out.length <= 80 := by
   have := filter_len (tr (gb bs (y + 40).toNat)) (x + 40).toNat
   rw [ho, List.length_map]; omega
  refine WP.skip (WP.seq (WP.block (WP.sr (RG.p (PV.move (v := v) rfl rfl) (RG.ml rfl (RG.ml rfl ?_))))))
  refine RG.callF (vs := [v, _, _]) rfl rfl En202 rfl (l03Has_s (Rs.up h1) hl ?_)
  refine RG.p (PV.move (v := v) rfl rfl) (RG.ml rfl (RG.p (PV.sub rfl rfl rfl (by omega)) (RG.ml rfl ?_)))
  refine RG.callF (vs := [v, _, _]) rfl rfl En202 rfl (l03Has_s (Rs.up h1) hl ?_)
  refine RG.p (PV.neqB rfl Tryz.underlying4 rfl rfl) (RG.nil ?_)
  refine WP.cond rfl (fun h3 => ?_) fun h3 => ?_
  ·have h4 : tr (gb bs (y + 40).toNat) (x + 40).toNat = true := by rw [tr, <- e1, <- e2]; exact h3
   refine WP.region (RG.p (PV.move (v := v') rfl rfl) (RG.ml rfl ?_))
   refine RG.ot rfl (OT.bslice (F := intT) (els := [_]) rfl El45 rfl (by decide) rfl (by decide) ⟨rfl, (Cl.c rfl), trivial⟩ fun v24 => ?_)
   refine RG.ot rfl (OT.append (v := v') (u := v24) (F := intT) rfl El45 rfl (by decide) rfl rfl Rs.o (OneL.c (fun _ => rfl)) rfl (by first | omega | (simp <;> omega)) fun v25 => ?_)
   refine RG.p (PV.asg (v := v25) rfl rfl) (RG.nil (WP.region (RG.ml rfl (RG.p (PV.add rfl rfl rfl (by omega)) (RG.mr rfl (RG.nil ?_))))))
   refine ⟨rfl, x + 1, (out ++ [x]), v25, ⟨by omega, by omega, ?_, by simp; omega⟩, ⟨rfl, rfl, trivial⟩, ⟨rfl, rfl, trivial⟩, Cv.p, by omega⟩
   rw [e0, List.range_succ, List.filter_append, List.map_append, <- ho]
   have : toI (x + 40).toNat = x := by simp only [toI]; omega
   simp [h4, this]
  ·have h4 : tr (gb bs (y + 40).toNat) (x + 40).toNat = false := by rw [tr, <- e1, <- e2]; exact h3
   refine WP.skip (WP.region (RG.ml rfl (RG.p (PV.add rfl rfl rfl (by omega)) (RG.mr rfl (RG.nil ?_)))))
   refine ⟨rfl, x + 1, out, v', ⟨by omega, by omega, ?_, by omega⟩, ⟨rfl, rfl, trivial⟩, ⟨rfl, rfl, trivial⟩, Cv.p, by omega⟩
   rw [e0, List.range_succ, List.filter_append, List.map_append, <- ho]
   simp [h4]
 ·have h2 := odf h2
  have e : out = runsI bs y := by
   rw [ho, runsI, trans]
   have : (x + 40).toNat = 81 := by omega
   rw [this]
  rw [e]
  refine WP.exit (WP.sr (RG.p (PV.move (v := v') rfl rfl) (RG.p (PV.asg (v := v') rfl rfl) (RG.nil ?_))))
  exact WP.ret ⟨_, _, rv rfl rfl, Cv.p, k v'⟩
end Go.Proofs.YtogocmlhnjiaaaaGreat
