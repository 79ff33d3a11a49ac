/-
  Contracts of functions and plain facts that the last text of this folder uses, part 1.
-/
import Derived.WalkKit
import Derived.Deep.Quiet
import Derived.Deep.LoopGhost
import Derived.ProofKit
import Derived.Deep.Slices
import Derived.Carry
import Derived.Laws.BytesArg
import Derived.Maps.AppendAt
import Derived.Laws.AppendOwnNone
import Derived.Test.YtcdigjhhmhkffaaDoorChecked
import Derived.Laws.StructEq
import Derived.OrdersHeld
import Derived.LaidMore
import Derived.OpenShut
import Derived.Stop.Joined
import Derived.Stop.LaidErr
import Derived.Lib.LaidTab
import Derived.WalkSmall
import Derived.Shelf.Strconv.Itoa4
import Derived.Shelf.Strconv.ErrVarParseInt
import Derived.Shelf.Strings.Cut
import Derived.Shelf.LaysM
import Derived.Shelf.LaysC
import Derived.Test.YtcdigjhhmhkffaaDoorProg
import Derived.Lib.BufferMore
import Derived.Lib.ItoaLen
import Derived.WideLaws
namespace Go.Proofs.YtcdigjhhmhkffaaDoor
set_option linter.unusedVariables false
set_option linter.unusedSimpArgs false
open Go
abbrev Hp := Nat → Option Obj
def Hp.le (G H : Hp) : Prop := ∀ b o, G b = some o → H b = some o
theorem Hp.le_refl (G : Hp) : Hp.le G G := fun _ _ h => h
theorem Hp.le_trans {G H K : Hp} (h : Hp.le G H) (k : Hp.le H K) : Hp.le G K := fun b o e => k b o (h b o e)
def Hp.dj (G H : Hp) : Prop := ∀ b, G b = none ∨ H b = none
def wh (w : World) : Hp := fun b => w.heap[b]?
abbrev Ch := Hp → Prop
def Sep : List Ch → Hp → Prop
  | [], _ => True
  | c :: L, h => ∃ h1 h2, Hp.dj h1 h2 ∧ Hp.le h1 h ∧ Hp.le h2 h ∧ c h1 ∧ Sep L h2
/-- what the state knows of the world: the published blocks, the streams -/
structure Gh where
  f : Hp
  os : Os
  tape : Nat → Question → Nat
  out : Array (Nat × ByteArray)
  dr : Nat
instance : Coe Gh Hp := ⟨Gh.f⟩
def Gh.ok (G : Gh) (w : World) : Prop := w.os = G.os ∧ w.tape = G.tape ∧ w.output = G.out ∧ G.dr ≤ w.drawn
def Gh.le (G G' : Gh) : Prop := Hp.le G.f G'.f ∧ G.os = G'.os ∧ G.tape = G'.tape ∧ G.out = G'.out ∧ G.dr ≤ G'.dr
theorem Gh.le_refl (G : Gh) : Gh.le G G := ⟨Hp.le_refl _, rfl, rfl, rfl, Nat.le_refl _⟩
theorem Gh.le_trans {G H K : Gh} (h : Gh.le G H) (k : Gh.le H K) : Gh.le G K := ⟨Hp.le_trans h.1 k.1, h.2.1.trans k.2.1, h.2.2.1.trans k.2.2.1, h.2.2.2.1.trans k.2.2.2.1, Nat.le_trans h.2.2.2.2 k.2.2.2.2⟩
theorem Gh.le_ok {G G' : Gh} (h : Gh.le G G') {w : World} (k : Gh.ok G' w) : Gh.ok G w := ⟨k.1.trans h.2.1.symm, k.2.1.trans h.2.2.1.symm, k.2.2.1.trans h.2.2.2.1.symm, Nat.le_trans h.2.2.2.2 k.2.2.2⟩
/-- of the world, only the heap has changed -/
def Quiet (w w' : World) : Prop := w'.os = w.os ∧ w'.tape = w.tape ∧ w'.output = w.output ∧ w.drawn ≤ w'.drawn
theorem Gh.ok_of {G : Gh} {w w' : World} (h : Gh.ok G w) (q : Quiet w w') : Gh.ok G w' := ⟨q.1.trans h.1, q.2.1.trans h.2.1, q.2.2.1.trans h.2.2.1, Nat.le_trans h.2.2.2 q.2.2.2⟩
def St (G : Gh) (L : List Ch) (w : World) : Prop :=
  ∃ h, Sep L h ∧ Hp.le G (wh w) ∧ Hp.le h (wh w) ∧ Hp.dj h G ∧ Gh.ok G w
theorem St.dr1 {G : Gh} {L : List Ch} {w : World} (h : St G L w) : St G L { w with drawn := w.drawn + 1 } :=
  let ⟨hp, s, l1, l2, d, o1, o2, o3, o4⟩ := h; ⟨hp, s, l1, l2, d, o1, o2, o3, Nat.le_succ_of_le o4⟩
theorem Sep.up : ∀ {L : List Ch} {h h' : Hp}, Sep L h → Hp.le h h' → Sep L h'
  | [], _, _, _, _ => trivial
  | _ :: _, _, _, ⟨h1, h2, d, l1, l2, c, s⟩, le => ⟨h1, h2, d, Hp.le_trans l1 le, Hp.le_trans l2 le, c, s⟩
/-- c taken out of L leaves L'. -/
inductive Ex : Ch → List Ch → List Ch → Prop
  | head (c : Ch) (L : List Ch) : Ex c (c :: L) L
  | tail {c : Ch} {L L' : List Ch} (x : Ch) : Ex c L L' → Ex c (x :: L) (x :: L')
theorem Ex.sep {c : Ch} {L L' : List Ch} (h : Ex c L L') : ∀ {hp : Hp}, Sep L hp → Sep (c :: L') hp := by
  induction h with
  | head => exact fun h => h
  | tail x hx ih =>
    rintro hp ⟨h1, h2, d, l1, l2, cx, s⟩
    obtain ⟨k1, k2, e, m1, m2, cc, s'⟩ := ih s
    refine ⟨k1, fun b => if (k1 b).isSome then none else hp b, ?_, Hp.le_trans m1 l2, ?_, cc, h1, k2, ?_, ?_, ?_, cx, s'⟩
    · intro b; by_cases hb : (k1 b).isSome <;> simp_all
    · intro b o h; by_cases hb : (k1 b).isSome <;> simp_all
    · intro b; rcases d b with h | h
      · exact .inl h
      · right
        cases hk : k2 b with
        | none => rfl
        | some o => have := m2 b o hk; simp [this] at h
    · intro b o h
      have hn : k1 b = none := by
        cases hk : k1 b with
        | none => rfl
        | some o' => have := m1 b o' hk; rcases d b with h' | h' <;> simp_all
      simp only [hn]; exact l1 b o h
    · intro b o h
      have hn : k1 b = none := by rcases e b with h' | h' <;> simp_all
      simp only [hn]; exact l2 b o (m2 b o h)
/-- C picked out of L, the rest dropped. -/
inductive Pick : List Ch → List Ch → Prop
  | refl (L : List Ch) : Pick L L
  | drop {C L : List Ch} (x : Ch) : Pick C L → Pick C (x :: L)
  | cons {c : Ch} {C L L' : List Ch} : Ex c L L' → Pick C L' → Pick (c :: C) L
theorem Pick.sep {C L : List Ch} (h : Pick C L) : ∀ {hp : Hp}, Sep L hp → Sep C hp := by
  induction h with
  | refl L => exact fun h => h
  | drop x _ ih => rintro hp ⟨h1, h2, _, _, l2, _, s⟩; exact ih (s.up l2)
  | cons hx _ ih =>
    intro hp s
    obtain ⟨h1, h2, d, l1, l2, c, s'⟩ := hx.sep s
    exact ⟨h1, h2, d, l1, l2, c, ih s'⟩
theorem St.pick {G : Gh} {L C : List Ch} {w : World} (h : St G L w) (p : Pick C L) : St G C w :=
  let ⟨hp, s, rest⟩ := h; ⟨hp, p.sep s, rest⟩
theorem Pick.nil (L : List Ch) : Pick [] L := by
  induction L with
  | nil => exact .refl _
  | cons x L ih => exact .drop x ih
class ExC (c : Ch) (L : List Ch) (L' : outParam (List Ch)) : Prop where
  ex : Ex c L L'
instance (priority := low) (c x : Ch) (L L' : List Ch) [h : ExC c L L'] : ExC c (x :: L) (x :: L') := ⟨.tail x h.ex⟩
instance (c : Ch) (L : List Ch) : ExC c (c :: L) L := ⟨.head c L⟩
class PickC (C L : List Ch) : Prop where
  pick : Pick C L
instance (priority := 10) (x : Ch) (C L : List Ch) [h : PickC C L] : PickC C (x :: L) := ⟨.drop x h.pick⟩
instance (priority := 20) (c : Ch) (C L L' : List Ch) [h : ExC c L L'] [k : PickC C L'] : PickC (c :: C) L := ⟨.cons h.ex k.pick⟩
instance (priority := 30) (L : List Ch) : PickC L L := ⟨.refl L⟩
instance (priority := 40) (L : List Ch) : PickC [] L := ⟨.nil L⟩
/-- what is owned, regrouped -/
def Cv (L L' : List Ch) : Prop := ∀ hp, Sep L hp → Sep L' hp
theorem Cv.refl (L : List Ch) : Cv L L := fun _ h => h
theorem Cv.trans {A B C : List Ch} (h : Cv A B) (k : Cv B C) : Cv A C := fun hp s => k hp (h hp s)
theorem Cv.pick {C L : List Ch} (p : Pick C L) : Cv L C := fun _ s => p.sep s
theorem Cv.p {C L : List Ch} [p : PickC C L] : Cv L C := Cv.pick p.pick
theorem St.cv {G : Gh} {L L' : List Ch} {w : World} (h : St G L w) (c : Cv L L') : St G L' w := let ⟨hp, s, rest⟩ := h; ⟨hp, c hp s, rest⟩
def ev (σ : Nat → Value) : Operand → Value
  | .tmp t => σ t
  | .const v => v
  | .global g => .pointer (some ⟨g, 0, none⟩)
  | .func f => .func (.func f) #[] #[]
def upd (σ : Nat → Value) (d : Nat) (v : Value) : Nat → Value := fun t => bif Nat.beq t d then v else σ t
def updo (σ : Nat → Value) : Option Tmp → Value → Nat → Value
  | some d, v => upd σ d v
  | none, _ => σ
def upds (σ : Nat → Value) : List (Nat × Value) → Nat → Value
  | [] => σ
  | (d, v) :: l => upd (upds σ l) d v
structure Ag (n : Nat) (σ : Nat → Value) (a : Act) : Prop where
  d : a.defers = []
  n : a.tmps.size = n
  e : ∀ t, a.tmps.getD t undef = σ t
def Tok (n : Nat) : Option Tmp → Bool
  | some d => Nat.blt d n
  | none => true
theorem Ag.eval {n : Nat} {σ : Nat → Value} {a : Act} (h : Ag n σ a) : a.eval = ev σ := by
  funext x; cases x <;> simp [Act.eval, ev, h.e]
theorem Ag.put {n : Nat} {σ : Nat → Value} {a : Act} (h : Ag n σ a) {d : Option Tmp} (hd : Tok n d = true) (v : Value) : Ag n (updo σ d v) (a.put d v) := by
  cases d with
  | none => exact h
  | some d =>
    have hlt : d < a.tmps.size := by
      have h1 : d + 1 ≤ n := by simpa [Tok, Nat.blt] using hd
      exact Nat.lt_of_lt_of_eq h1 h.n.symm
    refine ⟨h.d, by simp [Act.put, h.n], fun t => ?_⟩
    simp only [Act.put, updo, upd]
    by_cases e : t = d
    · subst e; simp [hlt]
    · have : Nat.beq t d = false := by cases hb : Nat.beq t d with
        | false => rfl
        | true => exact absurd (Nat.eq_of_beq_eq_true hb) e
      simp only [this, cond_false]
      rw [← h.e t]
      simp [Ne.symm e]
theorem Ag.ext {n : Nat} {σ τ : Nat → Value} {a : Act} (h : Ag n σ a) (e : ∀ t, σ t = τ t) : Ag n τ a := ⟨h.d, h.n, fun t => (h.e t).trans (e t)⟩
abbrev Post := Exit → (Nat → Value) → Gh → List Ch → Prop
def lift (n : Nat) (Q : Post) : Exit → Act → World → Prop := fun e a w => ∃ σ G L, Ag n σ a ∧ St G L w ∧ Q e σ G L
def opsOk (n : Nat) (l : List Oper) : Bool := l.all fun o => Tok n o.dst
def codeOk (n : Nat) : Code → Bool
  | .region _ ops _ => opsOk n ops.toList
  | .seq a b => codeOk n a && codeOk n b
  | .cond _ a b => codeOk n a && codeOk n b
  | .block _ a => codeOk n a
  | .loop a => codeOk n a
  | .scope a => codeOk n a
  | _ => true
@[irreducible] def WP (P : Program) (n : Nat) (c : Code) (Q : Post) (σ : Nat → Value) (G : Gh) (L : List Ch) : Prop :=
  codeOk n c = true → ∀ a w, Ag n σ a → St G L w → c.wp P (lift n Q) a w
/-- the next piece of code -/
def thenP (N : (Nat → Value) → Gh → List Ch → Prop) (Q : Post) : Post
  | .normal, σ, G, L => N σ G L
  | e, σ, G, L => Q e σ G L
def blockP (id : Nat) (Q : Post) : Post
  | .exit i, σ, G, L => bif Nat.beq i id then Q .normal σ G L else Q (.exit i) σ G L
  | e, σ, G, L => Q e σ G L
section rules
variable {P : Program} {n : Nat} {Q : Post} {σ : Nat → Value} {G : Gh} {L : List Ch}
theorem WP.mono {c : Code} {Q' : Post} (h : WP P n c Q σ G L) (hq : ∀ e σ G L, Q e σ G L → Q' e σ G L) : WP P n c Q' σ G L := by
  unfold WP at *
  exact fun hk a w ha hs => wp_mono (h hk a w ha hs) fun e a w ⟨σ, G, L, h1, h2, h3⟩ => ⟨σ, G, L, h1, h2, hq _ _ _ _ h3⟩
theorem WP.skip (h : Q .normal σ G L) : WP P n .skip Q σ G L := by
  unfold WP; exact fun _ _ _ ha hs => wp_skip ⟨σ, G, L, ha, hs, h⟩
theorem WP.exit {id : Nat} (h : Q (.exit id) σ G L) : WP P n (.exit id) Q σ G L := by
  unfold WP; exact fun _ _ _ ha hs => wp_exit ⟨σ, G, L, ha, hs, h⟩
theorem WP.ret (h : Q .ret σ G L) : WP P n .ret Q σ G L := by
  unfold WP; exact fun _ _ _ ha hs => wp_ret ⟨σ, G, L, ha, hs, h⟩
theorem WP.run {c : Code} (h : WP P n c Q σ G L) (hk : codeOk n c = true) {a : Act} {w : World} (ha : Ag n σ a) (hs : St G L w) : c.wp P (lift n Q) a w := by
  unfold WP at h; exact h hk a w ha hs
theorem WP.of {c : Code} (h : codeOk n c = true → ∀ a w, Ag n σ a → St G L w → c.wp P (lift n Q) a w) : WP P n c Q σ G L := by
  unfold WP; exact h
theorem WP.seq {x y : Code} (h : WP P n x (thenP (WP P n y Q) Q) σ G L) : WP P n (.seq x y) Q σ G L := by
  refine WP.of ?_
  intro hk a w ha hs
  simp only [codeOk, Bool.and_eq_true] at hk
  refine wp_seq (wp_mono (h.run hk.1 ha hs) ?_)
  rintro e a w ⟨σ, G, L, h1, h2, h3⟩
  cases e with
  | normal => have h3 : WP P n y Q σ G L := h3; exact h3.run hk.2 h1 h2
  | _ => exact ⟨σ, G, L, h1, h2, h3⟩
theorem WP.cond {c : Operand} {x y : Code} {b : Bool} (hc : ev σ c = .bool b) (ht : b = true → WP P n x Q σ G L) (hf : b = false → WP P n y Q σ G L) : WP P n (.cond c x y) Q σ G L := by
  unfold WP at *
  intro hk a w ha hs
  simp only [codeOk, Bool.and_eq_true] at hk
  exact wp_cond_split (by rw [ha.eval]; exact hc) (fun h => ht h hk.1 a w ha hs) (fun h => hf h hk.2 a w ha hs)
theorem WP.block {id : Nat} {c : Code} (h : WP P n c (blockP id Q) σ G L) : WP P n (.block id c) Q σ G L := by
  unfold WP at *
  intro hk a w ha hs
  refine wp_block (wp_mono (h hk a w ha hs) ?_)
  rintro e a w ⟨σ, G, L, h1, h2, h3⟩
  cases e with
  | exit i =>
    by_cases e : i = id
    · subst e
      have h3 : (bif Nat.beq i i then Q .normal σ G L else Q (.exit i) σ G L) := h3
      rw [Nat.beq_refl] at h3
      simp only [Exit.inBlock, if_true]; exact ⟨σ, G, L, h1, h2, h3⟩
    · have h3 : (bif Nat.beq i id then Q .normal σ G L else Q (.exit i) σ G L) := h3
      have : Nat.beq i id = false := by cases hb : Nat.beq i id with
        | false => rfl
        | true => exact absurd (Nat.eq_of_beq_eq_true hb) e
      rw [this] at h3
      simp only [Exit.inBlock, e, if_false]; exact ⟨σ, G, L, h1, h2, h3⟩
  | _ => exact ⟨σ, G, L, h1, h2, h3⟩
/-- weaken the state: any slots but those named are forgotten, chunks are dropped -/
theorem upds_agree : ∀ {vals : List (Nat × Value)} {τ : Nat → Value}, (∀ p ∈ vals, τ p.1 = p.2) → ∀ t, τ t = upds τ vals t
  | [], _, _, _ => rfl
  | (d, v) :: l, τ, h, t => by
    simp only [upds, upd]
    by_cases e : t = d
    · subst e; rw [Nat.beq_refl]; exact h (t, v) (.head _)
    · have : Nat.beq t d = false := by cases hb : Nat.beq t d with
        | false => rfl
        | true => exact absurd (Nat.eq_of_beq_eq_true hb) e
      simp only [this, cond_false]
      exact upds_agree (fun p hp => h p (.tail _ hp)) t
theorem WP.weak {c : Code} (vals : List (Nat × Value)) (C : List Ch) (hv : ∀ p ∈ vals, σ p.1 = p.2) (hC : Cv L C)
    (h : ∀ τ, WP P n c Q (upds τ vals) G C) : WP P n c Q σ G L := by
  have h := h σ
  unfold WP at *
  exact fun hk a w ha hs => h hk a w (ha.ext (upds_agree hv)) (hs.cv hC)
/-- the slots named hold these values -/
def HasV (σ : Nat → Value) : List (Nat × Value) → Prop
  | [] => True
  | (t, v) :: l => σ t = v ∧ HasV σ l
theorem HasV.all : ∀ {l : List (Nat × Value)} {σ : Nat → Value}, HasV σ l → ∀ p ∈ l, σ p.1 = p.2
  | (_, _) :: _, _, h, p, hp => by
    cases hp with
    | head => exact h.1
    | tail _ hp => exact HasV.all h.2 p hp
theorem HasV.append : ∀ {l m : List (Nat × Value)} {σ : Nat → Value}, HasV σ l → HasV σ m → HasV σ (l ++ m)
  | [], _, _, _, h => h
  | (_, _) :: _, _, _, h, k => ⟨h.1, HasV.append h.2 k⟩
/-- these slots as they are in σ -/
def kept (σ : Nat → Value) : List Nat → List (Nat × Value)
  | [] => []
  | t :: l => (t, σ t) :: kept σ l
def updk (τ σ : Nat → Value) : List Nat → Nat → Value
  | [] => τ
  | t :: l => upd (updk τ σ l) t (σ t)
theorem upds_append : ∀ (l m : List (Nat × Value)) (σ : Nat → Value), upds σ (l ++ m) = upds (upds σ m) l
  | [], _, _ => rfl
  | (_, _) :: l, m, σ => by simp only [List.cons_append, upds, upds_append l m σ]
theorem upds_kept : ∀ (l : List Nat) (τ σ : Nat → Value), upds τ (kept σ l) = updk τ σ l
  | [], _, _ => rfl
  | _ :: l, τ, σ => by simp only [kept, upds, updk, upds_kept l τ σ]
/-- the slots of `keep` are as in σ0 -/
def Keeps (σ σ0 : Nat → Value) : List Nat → Prop
  | [] => True
  | t :: l => σ t = σ0 t ∧ Keeps σ σ0 l
theorem Keeps.has : ∀ {l : List Nat} {σ σ0 : Nat → Value}, Keeps σ σ0 l → HasV σ (kept σ0 l)
  | [], _, _, _ => trivial
  | _ :: _, _, _, h => ⟨h.1, Keeps.has h.2⟩
theorem Keeps.self : ∀ (l : List Nat) (σ : Nat → Value), Keeps σ σ l
  | [], _ => trivial
  | _ :: l, σ => ⟨rfl, Keeps.self l σ⟩
/-- A LOOP: X the ghost state; J what holds of it; S the slots that the round writes, `keep` those that it leaves, C the chunks, μ a measure. -/
theorem WP.loop {c : Code} {X : Type} (keep : List Nat) (J : X → Gh → Prop) (S : X → List (Nat × Value)) (C : X → List Ch) (μ : X → Nat) (x0 : X) (j0 : J x0 G) (h0 : HasV σ (S x0)) (p0 : Cv L (C x0))
    (round : ∀ x G τ, J x G → WP P n c (thenP (fun σ' G' L' => ∃ x', J x' G' ∧ HasV σ' (S x') ∧ Keeps σ' σ keep ∧ Cv L' (C x') ∧ μ x' < μ x) Q) (upds (updk τ σ keep) (S x)) G (C x)) : WP P n (.loop c) Q σ G L := by
  refine WP.of ?_
  intro hk a w ha hs
  refine wp_loop_ghost (fun m a w => ∃ x σ1 G L, μ x = m ∧ Ag n σ1 a ∧ St G L w ∧ J x G ∧ HasV σ1 (S x) ∧ Keeps σ1 σ keep ∧ Cv L (C x)) (μ x0) ⟨x0, σ, G, L, rfl, ha, hs, j0, h0, Keeps.self _ _, p0⟩ ?_
  rintro m a w ⟨x, σ1, G, L, rfl, ha, hs, hj, hv, hkp, hc⟩
  have hx := fun t => upds_agree (hv.append hkp.has).all t
  have hr := round x G σ1 hj
  rw [← upds_kept, ← upds_append] at hr
  refine wp_mono (hr.run hk (ha.ext hx) (hs.cv hc)) ?_
  rintro e a' w' ⟨σ', G', L', h1, h2, h3⟩
  cases e with
  | normal =>
    obtain ⟨x', hj', hv', hk', hc', hlt⟩ := h3
    exact ⟨μ x', hlt, x', σ', G', L', rfl, h1, h2, hj', hv', hk', hc'⟩
  | _ => exact ⟨σ', G', L', h1, h2, h3⟩
theorem WP.loop0 {c : Code} (keep : List Nat) {A : Type} (J : A → Prop) (S : A → List (Nat × Value)) (C : A → List Ch) (μ : A → Nat) (a0 : A) (j0 : J a0) (h0 : HasV σ (S a0)) (p0 : Cv L (C a0))
    (round : ∀ a τ, J a → WP P n c (thenP (fun σ' G' L' => G' = G ∧ ∃ a', J a' ∧ HasV σ' (S a') ∧ Keeps σ' σ keep ∧ Cv L' (C a') ∧ μ a' < μ a) Q) (upds (updk τ σ keep) (S a)) G (C a)) : WP P n (.loop c) Q σ G L :=
  WP.loop keep (fun a G' => G' = G ∧ J a) S C μ a0 ⟨rfl, j0⟩ h0 p0 fun a G' τ ⟨e, j⟩ => by
    subst e
    exact WP.mono (round a τ j) fun e σ G L hq => by
      cases e with
      | normal => obtain ⟨rfl, a', h1, h2⟩ := hq; exact ⟨a', ⟨rfl, h1⟩, h2⟩
      | _ => exact hq
theorem WP.loop1 {c : Code} (keep : List Nat) {A : Type} (J : A → Prop) (S : A → List (Nat × Value)) (C : A → List Ch) (μ : A → Nat) (a0 : A) (j0 : J a0) (h0 : HasV σ (S a0)) (p0 : Cv L (C a0))
    (round : ∀ a τ, J a → WP P n c (thenP (fun σ' G' L' => G' = G ∧ ∃ a', J a' ∧ HasV σ' (S a') ∧ Keeps σ' σ keep ∧ Cv L' (C a') ∧ μ a' < μ a) Q) (upds (updk τ σ keep) (S a)) G (C a)) : WP P n (.loop c) Q σ G L :=
  WP.loop0 keep J S C μ a0 j0 h0 p0 round
theorem WP.loop2 {c : Code} (keep : List Nat) {A B : Type} (J : A → B → Prop) (S : A → B → List (Nat × Value)) (C : A → B → List Ch) (μ : A → B → Nat) (a0 : A) (b0 : B) (j0 : J a0 b0) (h0 : HasV σ (S a0 b0)) (p0 : Cv L (C a0 b0))
    (round : ∀ a b τ, J a b → WP P n c (thenP (fun σ' G' L' => G' = G ∧ ∃ a' b', J a' b' ∧ HasV σ' (S a' b') ∧ Keeps σ' σ keep ∧ Cv L' (C a' b') ∧ μ a' b' < μ a b) Q) (upds (updk τ σ keep) (S a b)) G (C a b)) : WP P n (.loop c) Q σ G L :=
  WP.loop0 keep (A := A × B) (fun x => J x.1 x.2) (fun x => S x.1 x.2) (fun x => C x.1 x.2) (fun x => μ x.1 x.2) (a0, b0) j0 h0 p0 fun x τ j =>
    WP.mono (round x.1 x.2 τ j) fun e σ G L hq => by
      cases e with
      | normal => obtain ⟨e, a', b', h⟩ := hq; exact ⟨e, (a', b'), h⟩
      | _ => exact hq
theorem WP.loop3 {c : Code} (keep : List Nat) {A B D : Type} (J : A → B → D → Prop) (S : A → B → D → List (Nat × Value)) (C : A → B → D → List Ch) (μ : A → B → D → Nat) (a0 : A) (b0 : B) (d0 : D) (j0 : J a0 b0 d0) (h0 : HasV σ (S a0 b0 d0)) (p0 : Cv L (C a0 b0 d0))
    (round : ∀ a b d τ, J a b d → WP P n c (thenP (fun σ' G' L' => G' = G ∧ ∃ a' b' d', J a' b' d' ∧ HasV σ' (S a' b' d') ∧ Keeps σ' σ keep ∧ Cv L' (C a' b' d') ∧ μ a' b' d' < μ a b d) Q) (upds (updk τ σ keep) (S a b d)) G (C a b d)) : WP P n (.loop c) Q σ G L :=
  WP.loop0 keep (A := A × B × D) (fun x => J x.1 x.2.1 x.2.2) (fun x => S x.1 x.2.1 x.2.2) (fun x => C x.1 x.2.1 x.2.2) (fun x => μ x.1 x.2.1 x.2.2) (a0, b0, d0) j0 h0 p0 fun x τ j =>
    WP.mono (round x.1 x.2.1 x.2.2 τ j) fun e σ G L hq => by
      cases e with
      | normal => obtain ⟨e, a', b', d', h⟩ := hq; exact ⟨e, (a', b', d'), h⟩
      | _ => exact hq
/-- A CUT: the ways meet again in a state told by J, S, C. -/
theorem WP.cut {x y : Code} {X : Type} (keep : List Nat) (J : X → Gh → Prop) (S : X → List (Nat × Value)) (C : X → List Ch)
    (h : WP P n x (thenP (fun σ' G' L' => ∃ x', J x' G' ∧ HasV σ' (S x') ∧ Keeps σ' σ keep ∧ Cv L' (C x')) Q) σ G L)
    (k : ∀ x' G τ, J x' G → WP P n y Q (upds (updk τ σ keep) (S x')) G (C x')) : WP P n (.seq x y) Q σ G L := by
  refine WP.seq (WP.mono h ?_)
  intro e σ' G L hq
  cases e with
  | normal =>
    obtain ⟨x', hj, hv, hk, hc⟩ := hq
    refine WP.weak (S x' ++ kept σ keep) (C x') (hv.append hk.has).all hc fun τ => ?_
    rw [upds_append, upds_kept]
    exact k x' G τ hj
  | _ => exact hq
end rules
end Go.Proofs.YtcdigjhhmhkffaaDoor
namespace Go.Proofs.YtcdigjhhmhkffaaDoor
set_option linter.unusedVariables false
set_option linter.unusedSimpArgs false
open Go
section
variable {P : Program} {n : Nat} {ops : Array Oper} {rest : List Oper} {Q : Post} {σ : Nat → Value} {G : Gh} {L : List Ch} {o : Oper}
/-- what follows in a region that keeps its order -/
@[irreducible] def RG (P : Program) (n : Nat) (ops : Array Oper) (rest : List Oper) (Q : Post) (σ : Nat → Value) (G : Gh) (L : List Ch) : Prop :=
  opsOk n rest = true → ∀ a w, Ag n σ a → St G L w → wpList P ops (lift n Q) rest a w
theorem RG.run (h : RG P n ops rest Q σ G L) (hk : opsOk n rest = true) {a : Act} {w : World} (ha : Ag n σ a) (hs : St G L w) : wpList P ops (lift n Q) rest a w := by
  unfold RG at h; exact h hk a w ha hs
theorem RG.of (h : opsOk n rest = true → ∀ a w, Ag n σ a → St G L w → wpList P ops (lift n Q) rest a w) : RG P n ops rest Q σ G L := by
  unfold RG; exact h
theorem WP.region {id : Nat} {l : List Oper} (h : RG P n l.toArray l Q σ G L) : WP P n (.region id l.toArray false) Q σ G L :=
  WP.of fun hk _ _ ha hs => wp_region_lit (h.run (by simpa [codeOk] using hk) ha hs)
theorem RG.nil (h : Q .normal σ G L) : RG P n ops [] Q σ G L := RG.of fun _ _ _ ha hs => ⟨σ, G, L, ha, hs, h⟩
/-- the operation yields v and leaves the world alone -/
def PV (P : Program) (o : Oper) (σ : Nat → Value) (G : Gh) (L : List Ch) (v : Value) : Prop :=
  ∀ w, St G L w → (execOp (ev σ) o).run P w = .ok (.value v) w
/-- the operation leads to a state of K -/
def OT (P : Program) (n : Nat) (o : Oper) (σ : Nat → Value) (G : Gh) (L : List Ch) (K : (Nat → Value) → Gh → List Ch → Prop) : Prop :=
  Tok n o.dst = true → ∀ a w, Ag n σ a → St G L w → ∀ Q', o.wp P a w (fun a' w' => ∃ σ' G' L', Ag n σ' a' ∧ St G' L' w' ∧ K σ' G' L') Q'
theorem opsOk_cons (h : opsOk n (o :: rest) = true) : Tok n o.dst = true ∧ opsOk n rest = true := by
  simpa [opsOk] using h
theorem RG.ot (hg : o.guard = none) (h : OT P n o σ G L (fun σ' G' L' => RG P n ops rest Q σ' G' L')) : RG P n ops (o :: rest) Q σ G L := by
  refine RG.of fun hk a w ha hs => ?_
  have hk := opsOk_cons hk
  refine wpList_plain hg fun K hK => ?_
  refine Oper.wp_mono (fun a' w' ⟨σ', G', L', h1, h2, h3⟩ => hK _ _ (h3.run hk.2 h1 h2)) (h hk.1 a w ha hs _)
theorem OT.pv {v : Value} {K : (Nat → Value) → Gh → List Ch → Prop} (h : PV P o σ G L v) (k : K (updo σ o.dst v) G L) : OT P n o σ G L K := by
  intro hk a w ha hs Q'
  unfold Oper.wp
  rw [ha.eval, h w hs]
  exact ⟨_, _, _, ha.put hk v, hs, k⟩
theorem RG.pv {v : Value} (hg : o.guard = none) (h : PV P o σ G L v) (k : RG P n ops rest Q (updo σ o.dst v) G L) : RG P n ops (o :: rest) Q σ G L :=
  RG.ot hg (OT.pv h k)
@[irreducible] def gv (b : Bool) (v : Value) : Value := bif b then v else undef
theorem gs_t {b : Bool} {v : Value} (h : b = true) : gv b v = v := by subst h; unfold gv; rfl
theorem gs_f {b : Bool} {v : Value} (h : b = false) : gv b v = undef := by subst h; unfold gv; rfl
theorem geqT {q : Bool} (h : q = true) : (q == true) = true := by subst h; rfl
theorem geqF {q : Bool} (h : q = false) : (q == false) = true := by subst h; rfl
theorem gandT {b q : Bool} (h : b = true) (k : q = true) : (b && (q == true)) = true := by subst h k; rfl
theorem gandF {b q : Bool} (h : b = true) (k : q = false) : (b && (q == false)) = true := by subst h k; rfl
theorem yielded_ag {a : Act} (ha : Ag n σ a) {j t : Nat} {b : Bool} (hj : (ops[j]?).bind (·.dst) = some t) (hb : σ t = .bool b) : yielded ops a.tmps j = some b := by
  have h := ha.e t
  rw [hb] at h
  have h2 : a.tmps[t]? = some (.bool b) := by
    cases hh : a.tmps[t]? with
    | some x => simp [Array.getD_eq_getD_getElem?, hh] at h; rw [h]
    | none => simp [Array.getD_eq_getD_getElem?, hh, undef] at h
  simp [yielded, hj, h2]
theorem RG.skip {j t : Nat} {want b : Bool} (hg : o.guard = some (j, want)) (hj : (ops[j]?).bind (·.dst) = some t) (hb : σ t = .bool b) (hw : b ≠ want) (k : RG P n ops rest Q (updo σ o.dst undef) G L) : RG P n ops (o :: rest) Q σ G L := by
  refine RG.of fun hk a w ha hs => ?_
  have hk := opsOk_cons hk
  have hn : Region.wanted o (yielded ops a.tmps) = false := by
    simp only [Region.wanted, hg, yielded_ag ha hj hb]
    cases b <;> cases want <;> simp_all
  unfold wpList
  rw [if_neg (by simp [hn])]
  exact k.run hk.2 (ha.put hk.1 _) hs
theorem RG.take {j t : Nat} {want b : Bool} (hg : o.guard = some (j, want)) (hj : (ops[j]?).bind (·.dst) = some t) (hb : σ t = .bool b) (hw : b = want) (k : RG P n ops ({ o with guard := none } :: rest) Q σ G L) : RG P n ops (o :: rest) Q σ G L := by
  refine RG.of fun hk a w ha hs => ?_
  subst hw
  have hn : Region.wanted o (yielded ops a.tmps) = true := by
    simp only [Region.wanted, hg, yielded_ag ha hj hb]; simp
  have h := k.run (by simpa [opsOk] using hk) ha hs
  unfold wpList at h ⊢
  rw [if_pos hn]
  rw [if_pos (by rfl)] at h
  exact h
theorem yielded_none {a : Act} (ha : Ag n σ a) {j t : Nat} (hj : (ops[j]?).bind (·.dst) = some t) (hb : σ t = undef) : yielded ops a.tmps j = none := by
  have h := ha.e t
  rw [hb] at h
  unfold yielded
  rw [hj]
  simp only [Option.bind_some]
  cases hh : a.tmps[t]? with
  | none => rfl
  | some x => simp [Array.getD_eq_getD_getElem?, hh] at h; subst h; rfl
theorem RG.skip0 {j t : Nat} {want : Bool} (hg : o.guard = some (j, want)) (hj : (ops[j]?).bind (·.dst) = some t) (hb : σ t = undef) (k : RG P n ops rest Q (updo σ o.dst undef) G L) : RG P n ops (o :: rest) Q σ G L := by
  refine RG.of fun hk a w ha hs => ?_
  have hk := opsOk_cons hk
  have hn : Region.wanted o (yielded ops a.tmps) = false := by
    simp only [Region.wanted, hg, yielded_none ha hj hb]; rfl
  unfold wpList
  rw [if_neg (by simp [hn])]
  exact k.run hk.2 (ha.put hk.1 _) hs
theorem RG.gsK {j t : Nat} {want p : Bool} (hg : o.guard = some (j, want)) (hj : (ops[j]?).bind (·.dst) = some t) (hb : σ t = .bool p) {v : Value}
    (h : (p == want) = true → RG P n ops rest Q (updo σ o.dst v) G L → RG P n ops ({ o with guard := none } :: rest) Q σ G L) (k : RG P n ops rest Q (updo σ o.dst (gv (p == want) v)) G L) : RG P n ops (o :: rest) Q σ G L := by
  by_cases e : p = want
  · have he : (p == want) = true := by simp [e]
    rw [gs_t he] at k
    exact RG.take hg hj hb e (h he k)
  · have he : (p == want) = false := by simp [e]
    rw [gs_f he] at k
    exact RG.skip hg hj hb e k
theorem RG.gsK2 {j t : Nat} {want b p : Bool} (hg : o.guard = some (j, want)) (hj : (ops[j]?).bind (·.dst) = some t) (hb : σ t = gv b (.bool p)) {v : Value}
    (h : (b && (p == want)) = true → RG P n ops rest Q (updo σ o.dst v) G L → RG P n ops ({ o with guard := none } :: rest) Q σ G L) (k : RG P n ops rest Q (updo σ o.dst (gv (b && (p == want)) v)) G L) : RG P n ops (o :: rest) Q σ G L := by
  cases b with
  | true => rw [gs_t rfl] at hb; exact RG.gsK hg hj hb (by simpa using h) (by simpa using k)
  | false => rw [gs_f rfl] at hb; rw [Bool.false_and, gs_f rfl] at k; exact RG.skip0 hg hj hb k
theorem RG.gs {j t : Nat} {want p : Bool} {v : Value} (hg : o.guard = some (j, want)) (hj : (ops[j]?).bind (·.dst) = some t) (hb : σ t = .bool p) (h : (p == want) = true → PV P o σ G L v) (k : RG P n ops rest Q (updo σ o.dst (gv (p == want) v)) G L) : RG P n ops (o :: rest) Q σ G L :=
  RG.gsK hg hj hb (fun e k => RG.pv rfl (fun w hs => h e w hs) k) k
theorem RG.gs2 {j t : Nat} {want b p : Bool} {v : Value} (hg : o.guard = some (j, want)) (hj : (ops[j]?).bind (·.dst) = some t) (hb : σ t = gv b (.bool p)) (h : (b && (p == want)) = true → PV P o σ G L v) (k : RG P n ops rest Q (updo σ o.dst (gv (b && (p == want)) v)) G L) : RG P n ops (o :: rest) Q σ G L :=
  RG.gsK2 hg hj hb (fun e k => RG.pv rfl (fun w hs => h e w hs) k) k
@[irreducible] def CallT (P : Program) (f : FuncId) (args : Array Value) (G : Gh) (L : List Ch) (R : Value → Gh → List Ch → Prop) : Prop :=
  ∀ w, St G L w → Calls P f args w fun e w' => ∃ v G' L', e = .returned v ∧ St G' L' w' ∧ R v G' L'
theorem CallT.run {f : FuncId} {args : Array Value} {R : Value → Gh → List Ch → Prop} (h : CallT P f args G L R) {w : World} (hs : St G L w) :
    Calls P f args w fun e w' => ∃ v G' L', e = .returned v ∧ St G' L' w' ∧ R v G' L' := by
  unfold CallT at h; exact h w hs
theorem CallT.of {f : FuncId} {args : Array Value} {R : Value → Gh → List Ch → Prop} (h : ∀ w, St G L w → Calls P f args w fun e w' => ∃ v G' L', e = .returned v ∧ St G' L' w' ∧ R v G' L') : CallT P f args G L R := by
  unfold CallT; exact h
theorem CallT.mono {f : FuncId} {args : Array Value} {R R' : Value → Gh → List Ch → Prop} (h : CallT P f args G L R) (hr : ∀ v G L, R v G L → R' v G L) : CallT P f args G L R' :=
  CallT.of fun _ hs => (h.run hs).mono fun _ _ ⟨v, G', L', h1, h2, h3⟩ => ⟨v, G', L', h1, h2, hr _ _ _ h3⟩
theorem CallT.pick {f : FuncId} {args : Array Value} {R : Value → Gh → List Ch → Prop} {C : List Ch} (hC : Pick C L) (h : CallT P f args G C R) : CallT P f args G L R :=
  CallT.of fun _ hs => h.run (hs.pick hC)
def Ent (P : Program) (f : FuncId) : Prop := ∀ args w, (callFunc f args).run P w = .ok (.enter f args) w
theorem ent_of {f : FuncId} {fn : Func} (hf : P.funcs[f]? = some fn) (hn : (fn.name == "runtime.NumGoroutine") = false) (hb : fn.body.isNone = false) : Ent P f := by
  intro args w
  simp only [callFunc, Sem.run_bind, run_program, Result.andThen_ok, hf, hn, hb, Bool.false_eq_true, if_false, Sem.run_pure]
def cargs (σ : Nat → Value) : List Operand → List Value
  | [] => []
  | x :: l => ev σ x :: cargs σ l
theorem cargs_map (σ : Nat → Value) (l : List Operand) : cargs σ l = l.map (ev σ) := by induction l <;> simp_all [cargs]
theorem anil {σ : Nat → Value} : cargs σ [] = [] := rfl
theorem acons {σ : Nat → Value} {x : Operand} {v : Value} {l : List Operand} {vs : List Value} (h : ev σ x = v) (k : cargs σ l = vs) : cargs σ (x :: l) = v :: vs := by rw [cargs, h, k]
theorem enter_run {f : FuncId} {l : List Operand} {ats : Array TypeId} {fo : Operand} {first caps : List Value} (ho : o.op = .call { callee := .value fo, args := l.toArray, argTypes := ats }) (hf : ev σ fo = .func (.func f) first.toArray caps.toArray) (hE : Ent P f) (w : World) :
    (execOp (ev σ) o).run P w = .ok (.enter f (first ++ cargs σ l ++ caps).toArray) w := by
  simp [execOp, ho, resolve, hf, Deferred.ofValue, invoke, hE _ w, cargs_map]
theorem OT.call {f : FuncId} {l : List Operand} {ats : Array TypeId} {fo : Operand} {first caps : List Value} {K : (Nat → Value) → Gh → List Ch → Prop}
    (ho : o.op = .call { callee := .value fo, args := l.toArray, argTypes := ats }) (hf : ev σ fo = .func (.func f) first.toArray caps.toArray) (hE : Ent P f)
    (h : CallT P f (first ++ cargs σ l ++ caps).toArray G L fun v G' L' => K (updo σ o.dst v) G' L') : OT P n o σ G L K := by
  intro hk a w hag hs Q'
  unfold Oper.wp
  rw [hag.eval, enter_run ho hf hE w, Oper.upon_enter]
  refine (h.run hs).mono ?_
  rintro e w' ⟨v, G', L', rfl, h2, h3⟩
  exact ⟨_, _, _, hag.put hk v, h2, h3⟩
/-- a call of a named function -/
theorem RG.callF {f : FuncId} {l : List Operand} {ats : Array TypeId} {vs : List Value} (hg : o.guard = none)
    (ho : o.op = .call { callee := .value (.func f), args := l.toArray, argTypes := ats }) (hE : Ent P f) (ha : cargs σ l = vs)
    (h : CallT P f vs.toArray G L fun v G' L' => RG P n ops rest Q (updo σ o.dst v) G' L') : RG P n ops (o :: rest) Q σ G L :=
  RG.ot hg (OT.call (first := []) (caps := []) ho rfl hE (by subst ha; simpa using h))
/-- a call of a function value -/
theorem RG.callC {f : FuncId} {l : List Operand} {ats : Array TypeId} {fo : Operand} {first caps : List Value} (hg : o.guard = none)
    (ho : o.op = .call { callee := .value fo, args := l.toArray, argTypes := ats }) (hf : ev σ fo = .func (.func f) first.toArray caps.toArray) (hE : Ent P f)
    (h : CallT P f (first ++ cargs σ l ++ caps).toArray G L fun v G' L' => RG P n ops rest Q (updo σ o.dst v) G' L') : RG P n ops (o :: rest) Q σ G L :=
  RG.ot hg (OT.call ho hf hE h)
theorem gcall {f : FuncId} {l : List Operand} {R : Value → Gh → List Ch → Prop} (h : ∃ vs, cargs σ l = vs ∧ CallT P f vs.toArray G L R) : CallT P f (cargs σ l).toArray G L R := by
  obtain ⟨vs, rfl, h⟩ := h; exact h
/-- a guarded call that hands back a known value and leaves the state as it was -/
theorem RG.gsC {j t : Nat} {want p : Bool} {v : Value} {f : FuncId} {l : List Operand} {ats : Array TypeId} (hg : o.guard = some (j, want)) (hj : (ops[j]?).bind (·.dst) = some t) (hb : σ t = .bool p)
    (ho : o.op = .call { callee := .value (.func f), args := l.toArray, argTypes := ats }) (hE : Ent P f)
    (h : (p == want) = true → ∃ vs, cargs σ l = vs ∧ CallT P f vs.toArray G L fun v' G' L' => v' = v ∧ G' = G ∧ L' = L) (k : RG P n ops rest Q (updo σ o.dst (gv (p == want) v)) G L) : RG P n ops (o :: rest) Q σ G L :=
  RG.gsK hg hj hb (fun e k => RG.callF rfl ho hE rfl ((gcall (h e)).mono fun v' G' L' ⟨e1, e2, e3⟩ => by subst e1 e2 e3; exact k)) k
@[irreducible] def RQ (P : Program) (n : Nat) (ops : Array Oper) (rest : List Oper) (Q : Post) (σ : Nat → Value) (G : Gh) (L : List Ch) : Prop :=
  opsOk n rest = true → ∀ a, Ag n σ a → wpQuiet P ops (St G L) (fun a' => ∀ w', St G L w' → lift n Q .normal a' w') rest a
theorem RQ.run (h : RQ P n ops rest Q σ G L) (hk : opsOk n rest = true) {a : Act} (ha : Ag n σ a) : wpQuiet P ops (St G L) (fun a' => ∀ w', St G L w' → lift n Q .normal a' w') rest a := by
  unfold RQ at h; exact h hk a ha
theorem RQ.of (h : opsOk n rest = true → ∀ a, Ag n σ a → wpQuiet P ops (St G L) (fun a' => ∀ w', St G L w' → lift n Q .normal a' w') rest a) : RQ P n ops rest Q σ G L := by
  unfold RQ; exact h
theorem WP.regionQ {id : Nat} {l : List Oper} (hm : P.follows .mixedOrders = true) (hB : Region.lexB .any l.toArray = true) (h : RQ P n l.toArray l Q σ G L) : WP P n (.region id l.toArray true) Q σ G L :=
  WP.of fun hk a w ha hs => wp_region_quiet (C := St G L) hm hB hs.dr1 (by simpa using h.run (by simpa [codeOk] using hk) ha)
theorem RQ.nil (h : Q .normal σ G L) : RQ P n ops [] Q σ G L := RQ.of fun _ _ ha _ hs => ⟨σ, G, L, ha, hs, h⟩
theorem RQ.step (hg : o.guard = none) {v : Value} (hq : ∀ a, Ag n σ a → ∀ w, St G L w → o.quietAt P a (St G L) w v) (k : RQ P n ops rest Q (updo σ o.dst v) G L) : RQ P n ops (o :: rest) Q σ G L := by
  refine RQ.of fun hk a ha => ?_
  have hk := opsOk_cons hk
  unfold wpQuiet
  rw [if_pos (by simp [Region.wanted, hg])]
  exact ⟨v, hq a ha, k.run hk.2 (ha.put hk.1 v)⟩
theorem RQ.pv {v : Value} (hg : o.guard = none) (h : PV P o σ G L v) (k : RQ P n ops rest Q (updo σ o.dst v) G L) : RQ P n ops (o :: rest) Q σ G L :=
  RQ.step hg (fun a ha w hs => by unfold Oper.quietAt; rw [ha.eval, h w hs]; exact ⟨rfl, rfl⟩) k
theorem RQ.skip {j t : Nat} {want b : Bool} (hg : o.guard = some (j, want)) (hj : (ops[j]?).bind (·.dst) = some t) (hb : σ t = .bool b) (hw : b ≠ want) (k : RQ P n ops rest Q (updo σ o.dst undef) G L) : RQ P n ops (o :: rest) Q σ G L := by
  refine RQ.of fun hk a ha => ?_
  have hk := opsOk_cons hk
  have hn : Region.wanted o (yielded ops a.tmps) = false := by
    simp only [Region.wanted, hg, yielded_ag ha hj hb]
    cases b <;> cases want <;> simp_all
  unfold wpQuiet
  rw [if_neg (by simp [hn])]
  exact k.run hk.2 (ha.put hk.1 _)
theorem RQ.take {j t : Nat} {want b : Bool} (hg : o.guard = some (j, want)) (hj : (ops[j]?).bind (·.dst) = some t) (hb : σ t = .bool b) (hw : b = want) (k : RQ P n ops ({ o with guard := none } :: rest) Q σ G L) : RQ P n ops (o :: rest) Q σ G L := by
  refine RQ.of fun hk a ha => ?_
  subst hw
  have hn : Region.wanted o (yielded ops a.tmps) = true := by
    simp only [Region.wanted, hg, yielded_ag ha hj hb]; simp
  have h := k.run (by simpa [opsOk] using hk) ha
  unfold wpQuiet at h ⊢
  rw [if_pos hn]
  rw [if_pos (by rfl)] at h
  exact h
theorem RQ.skip0 {j t : Nat} {want : Bool} (hg : o.guard = some (j, want)) (hj : (ops[j]?).bind (·.dst) = some t) (hb : σ t = undef) (k : RQ P n ops rest Q (updo σ o.dst undef) G L) : RQ P n ops (o :: rest) Q σ G L := by
  refine RQ.of fun hk a ha => ?_
  have hk := opsOk_cons hk
  have hn : Region.wanted o (yielded ops a.tmps) = false := by
    simp only [Region.wanted, hg, yielded_none ha hj hb]; rfl
  unfold wpQuiet
  rw [if_neg (by simp [hn])]
  exact k.run hk.2 (ha.put hk.1 _)
theorem RQ.gsK {j t : Nat} {want p : Bool} (hg : o.guard = some (j, want)) (hj : (ops[j]?).bind (·.dst) = some t) (hb : σ t = .bool p) {v : Value}
    (h : (p == want) = true → RQ P n ops rest Q (updo σ o.dst v) G L → RQ P n ops ({ o with guard := none } :: rest) Q σ G L) (k : RQ P n ops rest Q (updo σ o.dst (gv (p == want) v)) G L) : RQ P n ops (o :: rest) Q σ G L := by
  by_cases e : p = want
  · have he : (p == want) = true := by simp [e]
    rw [gs_t he] at k
    exact RQ.take hg hj hb e (h he k)
  · have he : (p == want) = false := by simp [e]
    rw [gs_f he] at k
    exact RQ.skip hg hj hb e k
theorem RQ.gsK2 {j t : Nat} {want b p : Bool} (hg : o.guard = some (j, want)) (hj : (ops[j]?).bind (·.dst) = some t) (hb : σ t = gv b (.bool p)) {v : Value}
    (h : (b && (p == want)) = true → RQ P n ops rest Q (updo σ o.dst v) G L → RQ P n ops ({ o with guard := none } :: rest) Q σ G L) (k : RQ P n ops rest Q (updo σ o.dst (gv (b && (p == want)) v)) G L) : RQ P n ops (o :: rest) Q σ G L := by
  cases b with
  | true => rw [gs_t rfl] at hb; exact RQ.gsK hg hj hb (by simpa using h) (by simpa using k)
  | false => rw [gs_f rfl] at hb; rw [Bool.false_and, gs_f rfl] at k; exact RQ.skip0 hg hj hb k
theorem RQ.gs {j t : Nat} {want p : Bool} {v : Value} (hg : o.guard = some (j, want)) (hj : (ops[j]?).bind (·.dst) = some t) (hb : σ t = .bool p) (h : (p == want) = true → PV P o σ G L v) (k : RQ P n ops rest Q (updo σ o.dst (gv (p == want) v)) G L) : RQ P n ops (o :: rest) Q σ G L :=
  RQ.gsK hg hj hb (fun e k => RQ.pv rfl (fun w hs => h e w hs) k) k
theorem RQ.gs2 {j t : Nat} {want b p : Bool} {v : Value} (hg : o.guard = some (j, want)) (hj : (ops[j]?).bind (·.dst) = some t) (hb : σ t = gv b (.bool p)) (h : (b && (p == want)) = true → PV P o σ G L v) (k : RQ P n ops rest Q (updo σ o.dst (gv (b && (p == want)) v)) G L) : RQ P n ops (o :: rest) Q σ G L :=
  RQ.gsK2 hg hj hb (fun e k => RQ.pv rfl (fun w hs => h e w hs) k) k
/-- a call that hands back a known value and leaves the state as it was -/
theorem RQ.callC {f : FuncId} {l : List Operand} {ats : Array TypeId} {fo : Operand} {first caps : List Value} {v : Value} (hg : o.guard = none)
    (ho : o.op = .call { callee := .value fo, args := l.toArray, argTypes := ats }) (hf : ev σ fo = .func (.func f) first.toArray caps.toArray) (hE : Ent P f)
    (h : CallT P f (first ++ cargs σ l ++ caps).toArray G L fun v' G' L' => v' = v ∧ G' = G ∧ L' = L) (k : RQ P n ops rest Q (updo σ o.dst v) G L) : RQ P n ops (o :: rest) Q σ G L := by
  refine RQ.step hg (fun a hag w hs => ?_) k
  unfold Oper.quietAt
  rw [hag.eval, enter_run ho hf hE w]
  refine ⟨rfl, (h.run hs).mono ?_⟩
  rintro e w' ⟨v', G', L', rfl, h2, rfl, rfl, rfl⟩
  exact ⟨rfl, h2⟩
theorem RQ.callF {f : FuncId} {l : List Operand} {ats : Array TypeId} {v : Value} {vs : List Value} (hg : o.guard = none)
    (ho : o.op = .call { callee := .value (.func f), args := l.toArray, argTypes := ats }) (hE : Ent P f) (ha : cargs σ l = vs)
    (h : CallT P f vs.toArray G L fun v' G' L' => v' = v ∧ G' = G ∧ L' = L) (k : RQ P n ops rest Q (updo σ o.dst v) G L) : RQ P n ops (o :: rest) Q σ G L :=
  RQ.callC (first := []) (caps := []) hg ho rfl hE (by subst ha; simpa using h) k
theorem RQ.gsC {j t : Nat} {want p : Bool} {v : Value} {f : FuncId} {l : List Operand} {ats : Array TypeId} (hg : o.guard = some (j, want)) (hj : (ops[j]?).bind (·.dst) = some t) (hb : σ t = .bool p)
    (ho : o.op = .call { callee := .value (.func f), args := l.toArray, argTypes := ats }) (hE : Ent P f)
    (h : (p == want) = true → ∃ vs, cargs σ l = vs ∧ CallT P f vs.toArray G L fun v' G' L' => v' = v ∧ G' = G ∧ L' = L) (k : RQ P n ops rest Q (updo σ o.dst (gv (p == want) v)) G L) : RQ P n ops (o :: rest) Q σ G L :=
  RQ.gsK hg hj hb (fun e k => RQ.callF rfl ho hE rfl (gcall (h e)) k) k
def RV1 (P : Program) (σ : Nat → Value) (G : Gh) (L : List Ch) : ResultVar → Value → Prop
  | .tmp t, v => σ t = v
  | .cell a t, v => ∀ w, St G L w → (do loadVar t (← asAddr (σ a)) : Sem Value).run P w = .ok v w
def ResV (P : Program) (fn : Func) (σ : Nat → Value) (G : Gh) (L : List Ch) (v : Value) : Prop :=
  ∀ w (tmps : Array Value), (∀ t, tmps.getD t undef = σ t) → St G L w → (results fn tmps).run P w = .ok v w
def rget (tmps : Array Value) : ResultVar → Sem Value
  | .tmp t => pure (tmps.getD t undef)
  | .cell a t => do loadVar t (← asAddr (tmps.getD a undef))
theorem results_rget (fn : Func) (tmps : Array Value) : results fn tmps = (do let vs ← fn.results.mapM (rget tmps); pure (if h : vs.size = 1 then vs[0] else .tuple vs)) := by
  unfold results
  congr 1
theorem rget_run {rv : ResultVar} {v : Value} (h : RV1 P σ G L rv v) {w : World} {tmps : Array Value} (ht : ∀ t, tmps.getD t undef = σ t) (hs : St G L w) :
    (rget tmps rv).run P w = .ok v w := by
  cases rv with
  | tmp t => have h : σ t = v := h; simp only [rget, ht, h]; rfl
  | cell a t => simp only [rget, ht]; exact h w hs
theorem ResV.zero {fn : Func} (hr : fn.results = #[]) : ResV P fn σ G L (.tuple #[]) := by
  intro w tmps ht hs; simp [results, hr]
theorem ResV.one {fn : Func} {rv : ResultVar} {v : Value} (hr : fn.results = #[rv]) (h : RV1 P σ G L rv v) : ResV P fn σ G L v := by
  intro w tmps ht hs
  have h1 := rget_run h ht hs
  simp [results_rget, hr, h1]
theorem ResV.two {fn : Func} {r1 r2 : ResultVar} {v1 v2 : Value} (hr : fn.results = #[r1, r2]) (h1 : RV1 P σ G L r1 v1) (h2 : RV1 P σ G L r2 v2) : ResV P fn σ G L (.tuple #[v1, v2]) := by
  intro w tmps ht hs
  have h1 := rget_run h1 ht hs
  have h2 := rget_run h2 ht hs
  simp [results_rget, hr, h1, h2]
theorem ResV.three {fn : Func} {r1 r2 r3 : ResultVar} {v1 v2 v3 : Value} (hr : fn.results = #[r1, r2, r3]) (h1 : RV1 P σ G L r1 v1) (h2 : RV1 P σ G L r2 v2) (h3 : RV1 P σ G L r3 v3) : ResV P fn σ G L (.tuple #[v1, v2, v3]) := by
  intro w tmps ht hs
  have h1 := rget_run h1 ht hs
  have h2 := rget_run h2 ht hs
  have h3 := rget_run h3 ht hs
  simp [results_rget, hr, h1, h2, h3]
def retP (P : Program) (fn : Func) (R : Value → Gh → List Ch → Prop) : Post
  | .ret, σ, G, L | .normal, σ, G, L => ∃ v L', ResV P fn σ G L v ∧ Cv L L' ∧ R v G L'
  | _, _, _, _ => False
def args0 : List Value → Nat → (Nat → Value) → Nat → Value
  | [], _, σ => σ
  | v :: l, k, σ => upd (args0 l (k + 1) σ) k v
def noSlots : Nat → Value := fun _ => undef
theorem args0_get : ∀ (l : List Value) (k t : Nat), args0 l k noSlots t = if k ≤ t then l.getD (t - k) undef else undef
  | [], k, t => by simp [args0, noSlots]
  | v :: l, k, t => by
    simp only [args0, upd]
    by_cases e : t = k
    · subst e; rw [Nat.beq_refl]; simp
    · have : Nat.beq t k = false := by cases hb : Nat.beq t k with
        | false => rfl
        | true => exact absurd (Nat.eq_of_beq_eq_true hb) e
      simp only [this, cond_false, args0_get l (k + 1) t]
      by_cases h : k ≤ t
      · have e2 : t - k = (t - (k + 1)) + 1 := by omega
        rw [if_pos h, if_pos (by omega), e2]; simp
      · rw [if_neg h, if_neg (by omega)]
theorem CallT.enter {f : FuncId} {fn : Func} {c : Code} {args : List Value} {R : Value → Gh → List Ch → Prop} (hf : P.funcs[f]? = some fn) (hb : fn.body = some c) (hn : fn.ntmps = n) (hk : codeOk n c = true)
    (hl' : Nat.ble args.length n = true) (h : WP P n c (retP P fn R) (args0 args 0 noSlots) G L) : CallT P f args.toArray G L R := by
  have hl : args.length ≤ n := Nat.le_of_ble_eq_true hl'
  refine CallT.of fun w hs => ?_
  have hag : Ag n (args0 args 0 noSlots) { tmps := args.toArray ++ Array.replicate (fn.ntmps - args.toArray.size) undef, defers := [] } := by
    refine ⟨rfl, by simp [hn]; omega, fun t => ?_⟩
    rw [args0_get]
    simp only [Nat.zero_le, if_true, Nat.sub_zero, Array.getD_eq_getD_getElem?, List.getD_eq_getElem?_getD]
    by_cases ht : t < args.length
    · simp [Array.getElem?_append, ht]
    · rw [List.getElem?_eq_none (by omega)]
      simp only [Array.getElem?_append, List.size_toArray, ht, if_false, Array.getElem?_replicate]
      split <;> rfl
  refine calls_of_wp hf hb (wp_mono (h.run hk hag hs) ?_)
  rintro e a w' ⟨σ', G', L', h1, h2, h3⟩
  have fin : (∃ v L'', ResV P fn σ' G' L' v ∧ Cv L' L'' ∧ R v G' L'') → a.defers = [] ∧ ∃ v, (results fn a.tmps).run P w' = .ok v w' ∧ ∃ v' G'' L'', Ending.returned v = .returned v' ∧ St G'' L'' w' ∧ R v' G'' L'' := by
    rintro ⟨v, L'', hv, hp, hr⟩
    exact ⟨h1.d, v, hv w' a.tmps h1.e h2, v, G', L'', rfl, h2.cv hp, hr⟩
  cases e with
  | ret => exact fin h3
  | normal => exact fin h3
  | _ => exact h3.elim
end
end Go.Proofs.YtcdigjhhmhkffaaDoor
namespace Go.Proofs.YtcdigjhhmhkffaaDoor
set_option linter.unusedVariables false
set_option linter.unusedSimpArgs false
open Go
set_option linter.unusedVariables false
def Scal (P : Program) (t : TypeId) : Prop := ∀ w, (isAgg t).run P w = .ok false w ∧ (sizeOf t).run P w = .ok 1 w
def Aggr (P : Program) (t : TypeId) (s : Nat) : Prop := ∀ w, (isAgg t).run P w = .ok true w ∧ (sizeOf t).run P w = .ok s w
def foff (P : Program) (s f : Nat) : Option (Nat × Nat) :=
  match P.underlying s with
  | some (.struct fs) =>
    match fs[f]? with
    | some fd => (P.info? fd.type).map fun i => (fd.offset, i.size)
    | none => none
  | _ => none
def FOff (P : Program) (s f off : Nat) : Prop := ∃ m, foff P s f = some (off, m + 1)
theorem FOff.parts {P : Program} {s f off : Nat} (h : FOff P s f off) : ∃ fs fd i, P.underlying s = some (.struct fs) ∧ fs[f]? = some fd ∧ fd.offset = off ∧ P.info? fd.type = some i ∧ i.size ≠ 0 := by
  obtain ⟨m, h⟩ := h
  unfold foff at h
  split at h
  · rename_i fs hu
    split at h
    · rename_i fd hf
      simp only [Option.map_eq_some_iff, Prod.mk.injEq] at h
      obtain ⟨i, hi, h1, h2⟩ := h
      exact ⟨fs, fd, i, hu, hf, h1, hi, by omega⟩
    · cases h
  · cases h
def IdxS (P : Program) (t e s : Nat) : Prop := P.underlying t = some (.slice e) ∧ (P.info? e).map (·.size) = some s
theorem info_size {P : Program} {e s : Nat} (h : (P.info? e).map (·.size) = some s) : ∃ i, P.info? e = some i ∧ i.size = s := by
  simpa [Option.map_eq_some_iff] using h
def Hc (h : Hp) (b k : Nat) : Option Value :=
  match h b with
  | some (.cells c _ _) => c[k]?
  | _ => none
theorem Hc.le {h h' : Hp} (l : Hp.le h h') {b k : Nat} {v : Value} (e : Hc h b k = some v) : Hc h' b k = some v := by
  unfold Hc at *
  cases hb : h b with
  | none => simp [hb] at e
  | some o => rw [l b o hb]; rw [hb] at e; exact e
theorem cell_hc (w : World) (b k : Nat) : w.cell? ⟨b, k, none⟩ = Hc (wh w) b k := by
  unfold World.cell? Hc wh
  simp only
  cases w.heap[b]? with
  | none => rfl
  | some o => cases o <;> rfl
def Rd (G : Gh) (L : List Ch) (b k : Nat) (v : Value) : Prop := ∀ w, St G L w → w.cell? ⟨b, k, none⟩ = some v
theorem Rd.g {G : Gh} {L : List Ch} {b k : Nat} {v : Value} (h : Hc G b k = some v) : Rd G L b k v := by
  intro w ⟨hp, s, l1, l2, d⟩
  rw [cell_hc]; exact Hc.le l1 h
theorem Rd.o {G : Gh} {L L' : List Ch} {c : Ch} {b k : Nat} {v : Value} (hx : Ex c L L') (hc : ∀ h, c h → Hc h b k = some v) : Rd G L b k v := by
  intro w ⟨hp, s, l1, l2, d⟩
  obtain ⟨h1, h2, _, m1, _, cc, _⟩ := hx.sep s
  rw [cell_hc]; exact Hc.le (Hp.le_trans m1 l2) (hc h1 cc)
/-- an owned block whose cells are written out -/
def blk (b : Nat) (t : TypeId) (cs : List Value) : Ch := fun h => h b = some (.cells cs.toArray t (0, 0))
class ExB (b : Nat) (L : List Ch) (t : outParam TypeId) (cs : outParam (List Value)) (L' : outParam (List Ch)) : Prop where
  ex : Ex (blk b t cs) L L'
instance (priority := low) (b : Nat) (x : Ch) (L : List Ch) (t : TypeId) (cs : List Value) (L' : List Ch) [h : ExB b L t cs L'] : ExB b (x :: L) t cs (x :: L') := ⟨.tail x h.ex⟩
instance (b : Nat) (L : List Ch) (t : TypeId) (cs : List Value) : ExB b (blk b t cs :: L) t cs L := ⟨.head _ L⟩
theorem Rd.blk {G : Gh} {L L' : List Ch} {b k : Nat} {t : TypeId} {cs : List Value} {v : Value} [hx : ExB b L t cs L'] (hv : cs[k]? = some v) : Rd G L b k v :=
  Rd.o hx.ex fun h hc => by unfold Hc; rw [hc]; simpa using hv
structure FT (α : Type) where
  sz : Nat
  enc : α → List Value
  len : ∀ x, (enc x).length = sz
def FT.flat {α : Type} (T : FT α) (xs : List α) : List Value := xs.flatMap T.enc
theorem FT.flat_len {α : Type} (T : FT α) (xs : List α) : (T.flat xs).length = xs.length * T.sz := by
  unfold FT.flat
  induction xs with
  | nil => simp
  | cons x xs ih => simp only [List.flatMap_cons, List.length_append, ih, T.len, List.length_cons, Nat.add_mul, Nat.one_mul]; omega
theorem FT.flat_get {α : Type} (T : FT α) : ∀ {xs : List α} {i j : Nat} {x : α} {c : Value}, xs[i]? = some x → (T.enc x)[j]? = some c → (T.flat xs)[i * T.sz + j]? = some c
  | [], _, _, _, _, h, _ => by simp at h
  | y :: xs, 0, j, x, c, h, hc => by
    simp only [List.getElem?_cons_zero, Option.some.injEq] at h
    subst h
    simp only [FT.flat, List.flatMap_cons, Nat.zero_mul, Nat.zero_add]
    rw [List.getElem?_append_left (by have := (List.getElem?_eq_some_iff.1 hc).1; omega)]
    exact hc
  | y :: xs, i + 1, j, x, c, h, hc => by
    simp only [List.getElem?_cons_succ] at h
    have ih := FT.flat_get T h hc
    simp only [FT.flat, List.flatMap_cons] at ih ⊢
    have e : (i + 1) * T.sz + j = (T.enc y).length + (i * T.sz + j) := by rw [T.len, Nat.add_mul]; omega
    rw [e, List.getElem?_append_right (by omega), Nat.add_sub_cancel_left]
    exact ih
def sb : Value → Nat
  | .slice (some a) _ _ => a.block
  | _ => 0
def so : Value → Nat
  | .slice (some a) _ _ => a.off
  | _ => 0
/-- v is a slice of n elements -/
def IsSl (v : Value) (n : Nat) : Prop := ∃ c, n ≤ c ∧ c ≤ maxLen ∧ ((∃ b k, v = .slice (some ⟨b, k, none⟩) n c) ∨ (∃ a, v = .slice a n c) ∧ n = 0)
theorem IsSl.one {v : Value} {n : Nat} (h : IsSl v n) : v.oneCell' = true := by
  obtain ⟨c, _, _, ⟨b, k, rfl⟩ | ⟨⟨_, rfl⟩, _⟩⟩ := h <;> rfl
theorem IsSl.some {v : Value} {n : Nat} (h : IsSl v n) (hn : 0 < n) : ∃ c, n ≤ c ∧ c ≤ maxLen ∧ v = .slice (some ⟨sb v, so v, none⟩) n c := by
  obtain ⟨c, h1, h2, ⟨b, k, rfl⟩ | ⟨⟨_, rfl⟩, h0⟩⟩ := h
  · exact ⟨c, h1, h2, rfl⟩
  · omega
/-- a published slice that reads as xs -/
structure SL {α : Type} (G : Gh) (T : FT α) (v : Value) (xs : List α) : Prop where
  sl : IsSl v xs.length
  get : ∀ j c, (T.flat xs)[j]? = Option.some c → Hc G (sb v) (so v + j) = Option.some c
theorem SL.le {α : Type} {G G' : Gh} {T : FT α} {v : Value} {xs : List α} (h : SL G T v xs) (l : Hp.le G.f G'.f) : SL G' T v xs := ⟨h.sl, fun j c e => Hc.le l (h.get j c e)⟩
/-- an owned slice that reads as xs; e: its element's type -/
def osl {α : Type} (e : TypeId) (T : FT α) (v : Value) (xs : List α) : Ch := fun h =>
  (v = .slice none 0 0 ∧ xs = []) ∨ ∃ b cap c, v = .slice (some ⟨b, 0, none⟩) xs.length cap ∧ h b = some (.cells c e (0, 0)) ∧ xs.length ≤ cap ∧ cap ≤ maxLen ∧ c.size = cap * T.sz ∧ c.toList.take (xs.length * T.sz) = T.flat xs
theorem osl.isSl {α : Type} {e : TypeId} {T : FT α} {v : Value} {xs : List α} {h : Hp} (hc : osl e T v xs h) : IsSl v xs.length := by
  rcases hc with ⟨rfl, rfl⟩ | ⟨b, cap, c, rfl, _, h1, h2, _⟩
  · exact ⟨0, Nat.le_refl _, Nat.zero_le _, .inr ⟨⟨_, rfl⟩, rfl⟩⟩
  · exact ⟨cap, h1, h2, .inl ⟨b, 0, rfl⟩⟩
theorem osl.get {α : Type} {e : TypeId} {T : FT α} {v : Value} {xs : List α} {h : Hp} (hc : osl e T v xs h) : ∀ j c, (T.flat xs)[j]? = some c → Hc h (sb v) (so v + j) = some c := by
  intro j x hx
  rcases hc with ⟨rfl, rfl⟩ | ⟨b, cap, c, rfl, hb, h1, h2, h3, h4⟩
  · simp [FT.flat] at hx
  · simp only [sb, so, Hc, hb, Nat.zero_add]
    rw [← h4] at hx
    rw [List.getElem?_take] at hx
    split at hx
    · simpa using hx
    · cases hx
class ExS (v : Value) (L : List Ch) (α : outParam Type) (e : outParam TypeId) (F : outParam (FT α)) (xs : outParam (List α)) (L' : outParam (List Ch)) : Prop where
  ex : Ex (osl e F v xs) L L'
instance (priority := low) (v : Value) (x : Ch) (L : List Ch) (α : Type) (e : TypeId) (F : FT α) (xs : List α) (L' : List Ch) [h : ExS v L α e F xs L'] : ExS v (x :: L) α e F xs (x :: L') := ⟨.tail x h.ex⟩
instance (v : Value) (L : List Ch) (α : Type) (e : TypeId) (F : FT α) (xs : List α) : ExS v (osl e F v xs :: L) α e F xs L := ⟨.head _ L⟩
def SlF (G : Gh) (L : List Ch) (v : Value) (n : Nat) : Prop := ∀ w, St G L w → IsSl v n
theorem SlF.g {α : Type} {G : Gh} {L : List Ch} {T : FT α} {v : Value} {xs : List α} (h : SL G T v xs) : SlF G L v xs.length := fun _ _ => h.sl
theorem SlF.o {α : Type} {G : Gh} {L L' : List Ch} {e : TypeId} {T : FT α} {v : Value} {xs : List α} [hx : ExS v L α e T xs L'] : SlF G L v xs.length := by
  intro w ⟨hp, s, l1, l2, d⟩
  obtain ⟨h1, h2, _, m1, _, cc, _⟩ := hx.ex.sep s
  exact cc.isSl
theorem St.weak {G G' : Gh} {L L' : List Ch} {w : World} (h : St G' L' w) (p : Pick L L') (l : Gh.le G G') : St G L w := by
  obtain ⟨hp, s, l1, l2, d, ok⟩ := h
  refine ⟨hp, p.sep s, Hp.le_trans l.1 l1, l2, fun b => ?_, Gh.le_ok l ok⟩
  rcases d b with h | h
  · exact .inl h
  · right
    cases hg : G.f b with
    | none => rfl
    | some o => rw [l.1 b o hg] at h; cases h
/-- in the state (G, L) the slice v reads as xs -/
def Rs {α : Type} (G : Gh) (L : List Ch) (T : FT α) (v : Value) (xs : List α) : Prop :=
  ∀ w, St G L w → IsSl v xs.length ∧ ∀ j c, (T.flat xs)[j]? = some c → w.cell? ⟨sb v, so v + j, none⟩ = some c
theorem Rs.g {α : Type} {G : Gh} {L : List Ch} {T : FT α} {v : Value} {xs : List α} (h : SL G T v xs) : Rs G L T v xs :=
  fun w hs => ⟨h.sl, fun j c hc => Rd.g (h.get j c hc) w hs⟩
theorem Rs.o {α : Type} {G : Gh} {L L' : List Ch} {e : TypeId} {T : FT α} {v : Value} {xs : List α} [hx : ExS v L α e T xs L'] : Rs G L T v xs :=
  fun w hs => ⟨SlF.o (hx := hx) w hs, fun j c hc => Rd.o (G := G) hx.ex (fun h ho => ho.get j c hc) w hs⟩
theorem Rs.up {α : Type} {G : Gh} {L L' : List Ch} {T : FT α} {v : Value} {xs : List α} (h : Rs G L T v xs) [p : PickC L L'] : Rs G L' T v xs :=
  fun w hs => h w (hs.pick p.pick)
theorem Rs.le {α : Type} {G G' : Gh} {L : List Ch} {T : FT α} {v : Value} {xs : List α} (h : Rs G L T v xs) (l : Gh.le G G') : Rs G' L T v xs :=
  fun w hs => h w (hs.weak (.refl _) l)
theorem SlF.r {α : Type} {G : Gh} {L L' : List Ch} {T : FT α} {v : Value} {xs : List α} (h : Rs G L T v xs) [p : PickC L L'] : SlF G L' v xs.length := fun w hs => (h w (hs.pick p.pick)).1
/-- element i of the slice v reads as x -/
def El {α : Type} (G : Gh) (L : List Ch) (T : FT α) (v : Value) (i : Nat) (x : α) : Prop := ∀ j c, (T.enc x)[j]? = some c → Rd G L (sb v) (so v + i * T.sz + j) c
theorem El.g {α : Type} {G : Gh} {L : List Ch} {T : FT α} {v : Value} {xs : List α} {i : Nat} {x : α} (h : SL G T v xs) (hi : xs[i]? = some x) : El G L T v i x := by
  intro j c hc
  rw [Nat.add_assoc]
  exact Rd.g (h.get _ _ (T.flat_get hi hc))
theorem El.o {α : Type} {G : Gh} {L L' : List Ch} {e : TypeId} {T : FT α} {v : Value} {xs : List α} {i : Nat} {x : α} [hx : ExS v L α e T xs L'] (hi : xs[i]? = some x) : El G L T v i x := by
  intro j c hc
  rw [Nat.add_assoc]
  exact Rd.o hx.ex fun h ho => ho.get _ _ (T.flat_get hi hc)
theorem El.r {α : Type} {G : Gh} {L L' : List Ch} {T : FT α} {v : Value} {xs : List α} {i : Nat} {x : α} (h : Rs G L T v xs) [p : PickC L L'] (hi : xs[i]? = some x) : El G L' T v i x := by
  intro j c hc w hs
  rw [Nat.add_assoc]
  exact (h w (hs.pick p.pick)).2 _ _ (T.flat_get hi hc)
theorem IsSl.bd {v : Value} {n : Nat} (h : IsSl v n) : n ≤ 9223372036854775807 := by
  obtain ⟨c, h1, h2, _⟩ := h; simp only [maxLen] at h2; omega
theorem CallT.bd {α : Type} {P : Program} {f : FuncId} {args : Array Value} {R : Value → Gh → List Ch → Prop} {G : Gh} {L : List Ch} {T : FT α} {v : Value} {xs : List α} (h : Rs G L T v xs) (k : xs.length ≤ 9223372036854775807 → CallT P f args G L R) : CallT P f args G L R :=
  CallT.of fun w hs => (k (h w hs).1.bd).run hs
theorem WP.bd {α : Type} {P : Program} {n : Nat} {c : Code} {Q : Post} {σ : Nat → Value} {G : Gh} {L L' : List Ch} {T : FT α} {v : Value} {xs : List α} (h : Rs G L T v xs) [p : PickC L L'] (k : xs.length ≤ 9223372036854775807 → WP P n c Q σ G L') : WP P n c Q σ G L' :=
  WP.of fun hk a w ha hs => (k (h w (hs.pick p.pick)).1.bd).run hk ha hs
section
variable {P : Program} {n : Nat} {σ : Nat → Value} {G : Gh} {L : List Ch} {o : Oper} {T T' t : TypeId} {x y z : Operand} {v u : Value}
theorem PV.move (ho : o.op = .move x) (hx : ev σ x = v) : PV P o σ G L v := by intro w _; simp [execOp, ho, hx]
theorem PV.asg (ho : o.op = .assign x) (hx : ev σ x = v) : PV P o σ G L v := by intro w _; simp [execOp, ho, hx]
theorem PV.mvI {k : IntKind} {a : Int} (ho : o.op = .move x ∨ o.op = .assign x) (hx : ev σ x = .int k a) : PV P o σ G L (.int k a) := by intro w _; rcases ho with ho | ho <;> simp [execOp, ho, hx]
theorem PV.mvB {p : Bool} (ho : o.op = .move x ∨ o.op = .assign x) (hx : ev σ x = .bool p) : PV P o σ G L (.bool p) := by intro w _; rcases ho with ho | ho <;> simp [execOp, ho, hx]
theorem PV.mvS {s : ByteArray} (ho : o.op = .move x ∨ o.op = .assign x) (hx : ev σ x = .string s) : PV P o σ G L (.string s) := by intro w _; rcases ho with ho | ho <;> simp [execOp, ho, hx]
theorem PV.pick {p : Bool} (ho : o.op = .pick x y z) (hx : ev σ x = .bool p) (hv : (bif p then ev σ y else ev σ z) = v) : PV P o σ G L v := by
  intro w _; subst hv; cases p <;> simp [execOp, ho, hx, asBool]
theorem PV.pickA {p q : Bool} (ho : o.op = .pick x y z) (hx : ev σ x = .bool p) (hy : p = true → ev σ y = .bool q) (hz : ev σ z = .bool false) : PV P o σ G L (.bool (p && q)) :=
  PV.pick ho hx (by cases p with | true => exact hy rfl | false => exact hz)
theorem PV.pickO {p q : Bool} (ho : o.op = .pick x y z) (hx : ev σ x = .bool p) (hy : ev σ y = .bool true) (hz : p = false → ev σ z = .bool q) : PV P o σ G L (.bool (p || q)) :=
  PV.pick ho hx (by cases p with | true => exact hy | false => exact hz rfl)
theorem i64w {a : Int} (h : -9223372036854775808 ≤ a ∧ a ≤ 9223372036854775807) : IntKind.i64.wrap a = a := IntWalk.i64_in _ h
section
variable {k : IntKind} {a b : Int}
theorem PV.addW (ho : o.op = .binOp .add T x y T') (hx : ev σ x = .int k a) (hy : ev σ y = .int k b) : PV P o σ G L (.int k (k.wrap (a + b))) := by
  intro w _; simp [execOp, ho, hx, hy, eqGuard, binOp, Op.intArith]
theorem PV.subW (ho : o.op = .binOp .sub T x y T') (hx : ev σ x = .int k a) (hy : ev σ y = .int k b) : PV P o σ G L (.int k (k.wrap (a - b))) := by
  intro w _; simp [execOp, ho, hx, hy, eqGuard, binOp, Op.intArith]
theorem PV.mulW (ho : o.op = .binOp .mul T x y T') (hx : ev σ x = .int k a) (hy : ev σ y = .int k b) : PV P o σ G L (.int k (k.wrap (a * b))) := by
  intro w _; simp [execOp, ho, hx, hy, eqGuard, binOp, Op.intArith]
theorem PV.add (ho : o.op = .binOp .add T x y T') (hx : ev σ x = .int .i64 a) (hy : ev σ y = .int .i64 b) (hr : -9223372036854775808 ≤ a + b ∧ a + b ≤ 9223372036854775807) : PV P o σ G L (.int .i64 (a + b)) := by
  have h := PV.addW (P := P) (G := G) (L := L) ho hx hy; rwa [i64w hr] at h
theorem PV.sub (ho : o.op = .binOp .sub T x y T') (hx : ev σ x = .int .i64 a) (hy : ev σ y = .int .i64 b) (hr : -9223372036854775808 ≤ a - b ∧ a - b ≤ 9223372036854775807) : PV P o σ G L (.int .i64 (a - b)) := by
  have h := PV.subW (P := P) (G := G) (L := L) ho hx hy; rwa [i64w hr] at h
theorem PV.mul (ho : o.op = .binOp .mul T x y T') (hx : ev σ x = .int .i64 a) (hy : ev σ y = .int .i64 b) (hr : -9223372036854775808 ≤ a * b ∧ a * b ≤ 9223372036854775807) : PV P o σ G L (.int .i64 (a * b)) := by
  have h := PV.mulW (P := P) (G := G) (L := L) ho hx hy; rwa [i64w hr] at h
theorem PV.lss (ho : o.op = .binOp .lss T x y T') (hx : ev σ x = .int k a) (hy : ev σ y = .int k b) : PV P o σ G L (.bool (decide (a < b))) := by
  intro w _; simp [execOp, ho, hx, hy, eqGuard, binOp, Op.intCmp]
theorem PV.leq (ho : o.op = .binOp .leq T x y T') (hx : ev σ x = .int k a) (hy : ev σ y = .int k b) : PV P o σ G L (.bool (decide (a ≤ b))) := by
  intro w _; simp [execOp, ho, hx, hy, eqGuard, binOp, Op.intCmp]
theorem PV.gtr (ho : o.op = .binOp .gtr T x y T') (hx : ev σ x = .int k a) (hy : ev σ y = .int k b) : PV P o σ G L (.bool (decide (b < a))) := by
  intro w _; simp [execOp, ho, hx, hy, eqGuard, binOp, Op.intCmp]
theorem PV.geq (ho : o.op = .binOp .geq T x y T') (hx : ev σ x = .int k a) (hy : ev σ y = .int k b) : PV P o σ G L (.bool (decide (b ≤ a))) := by
  intro w _; simp [execOp, ho, hx, hy, eqGuard, binOp, Op.intCmp]
theorem PV.eql (ho : o.op = .binOp .eql T x y T') (hx : ev σ x = .int k a) (hy : ev σ y = .int k b) : PV P o σ G L (.bool (decide (a = b))) := by
  intro w _; simp [execOp, ho, hx, hy, eqGuard, binOp, Op.intCmp]; rfl
theorem PV.neq (ho : o.op = .binOp .neq T x y T') (hx : ev σ x = .int k a) (hy : ev σ y = .int k b) : PV P o σ G L (.bool (!decide (a = b))) := by
  intro w _; simp [execOp, ho, hx, hy, eqGuard, binOp, Op.intCmp, bne]; rfl
theorem PV.quo (ho : o.op = .binOp .quo T x y T') (hx : ev σ x = .int .i64 a) (hy : ev σ y = .int .i64 b) (h0 : 0 ≤ a) (h1 : 0 < b) (hr : a ≤ 9223372036854775807) : PV P o σ G L (.int .i64 (a / b)) := by
  intro w _
  have e : a.tdiv b = a / b := Int.tdiv_eq_ediv_of_nonneg h0
  have hd : a / b ≤ a := Int.ediv_le_self _ h0
  have hd0 : 0 ≤ a / b := Int.ediv_nonneg h0 (by omega)
  simp [execOp, ho, hx, hy, eqGuard, binOp, Op.intDiv, e, i64w (a := a / b) ⟨by omega, by omega⟩, show ¬ b = 0 by omega]
theorem PV.rem (ho : o.op = .binOp .rem T x y T') (hx : ev σ x = .int .i64 a) (hy : ev σ y = .int .i64 b) (h0 : 0 ≤ a) (h1 : 0 < b) (hr : b ≤ 9223372036854775807) : PV P o σ G L (.int .i64 (a % b)) := by
  intro w _
  have e : a.tmod b = a % b := Int.tmod_eq_emod_of_nonneg h0
  have hd0 : 0 ≤ a % b := Int.emod_nonneg _ (by omega)
  have hd : a % b < b := Int.emod_lt_of_pos _ h1
  simp [execOp, ho, hx, hy, eqGuard, binOp, Op.intDiv, e, show ¬ b = 0 by omega]
theorem PV.conv (ho : o.op = .convert T T' x) {k' : IntKind} (h1 : ∃ d, P.underlying T = some d) (h2 : P.underlying T' = some (.int k')) (hx : ev σ x = .int k a) (hr : k'.wrap a = b) : PV P o σ G L (.int k' b) := by
  obtain ⟨d, h1⟩ := h1
  intro w _; subst hr; cases d <;> simp [execOp, ho, hx, convert, run_underlying h1, run_underlying h2, Conv.intToInt]
end
theorem PV.not {p : Bool} (ho : o.op = .unOp .not T x) (hx : ev σ x = .bool p) : PV P o σ G L (.bool (!p)) := by
  intro w _; simp [execOp, ho, hx, Op.unary]
theorem add_none (b k m : Nat) : Addr.add ⟨b, k, none⟩ m = ⟨b, k + m, none⟩ := by
  unfold Addr.add; split <;> simp_all
theorem PV.field {s f off b k : Nat} (ho : o.op = .fieldAddr s x f) (hF : FOff P s f off) (hx : ev σ x = .pointer (some ⟨b, k, none⟩)) : PV P o σ G L (.pointer (some ⟨b, k + off, none⟩)) := by
  obtain ⟨fs, fd, i, h1, h2, rfl, h3, h4⟩ := hF.parts
  intro w _
  simp [execOp, ho, hx, Instr.fieldAt, run_underlying h1, h2, Instr.sureAddr, fieldPlace, sizeOf, typeInfo, h3, h4, add_none]
theorem PV.idxS {s m : Nat} {kd : IntKind} {i : Int} {j : Nat} (ho : o.op = .indexAddr t x y) {e : TypeId} (hI : IdxS P t e s) (hx : ev σ x = v) (hs : SlF G L v m) (hy : ev σ y = .int kd i) (hj : i = (j : Int)) (hl : j < m) :
    PV P o σ G L (.pointer (some ⟨sb v, so v + j * s, none⟩)) := by
  obtain ⟨h1, h2⟩ := hI
  obtain ⟨inf, h3, rfl⟩ := info_size h2
  clear h2
  intro w hw
  subst hj
  obtain ⟨c, hc1, hc2, hv⟩ := (hs w hw).some (by omega)
  have hx' : ev σ x = .slice (some ⟨sb v, so v, none⟩) m c := hx.trans hv
  generalize sb v = b at *
  generalize so v = k at *
  simp [execOp, ho, hx', hy, Instr.indexAt, asIntOf, run_underlying h1, sizeOf, typeInfo, h3, add_none, hl]
theorem PV.load1 {b k : Nat} (ho : o.op = .load t x) (hS : Scal P t) (hx : ev σ x = .pointer (some ⟨b, k, none⟩)) (hr : Rd G L b k v) : PV P o σ G L v := by
  intro w hw
  simp [execOp, ho, hx, Instr.loadAt, Instr.sureAddr, loadVar, (hS w).1, hr w hw]
theorem loadCells_run : ∀ (m b k i : Nat) (acc : Array Value) (vs : List Value) (w : World), vs.length = m → (∀ j c, vs[j]? = some c → w.cell? ⟨b, k + (i + j), none⟩ = some c) →
    (loadCellsFrom ⟨b, k, none⟩ i m acc).run P w = .ok (acc ++ vs.toArray) w
  | 0, b, k, i, acc, vs, w, hl, _ => by
    obtain rfl := List.eq_nil_of_length_eq_zero hl
    simp [loadCellsFrom]
  | m + 1, b, k, i, acc, [], w, hl, _ => by simp at hl
  | m + 1, b, k, i, acc, c :: vs, w, hl, h => by
    have h0 := h 0 c (by simp)
    have ih := loadCells_run m b k (i + 1) (acc.push c) vs w (by simpa using hl) (fun j c' hc => by
      have := h (j + 1) c' (by simpa using hc)
      rwa [show i + (j + 1) = i + 1 + j by omega] at this)
    simp only [loadCellsFrom, Sem.run_bind, run_load, add_none]
    rw [Nat.add_zero] at h0
    simp only [h0, Result.andThen_ok, ih]
    simp
theorem PV.loadA {b k s : Nat} {vs : List Value} (ho : o.op = .load t x) (hA : Aggr P t s) (hx : ev σ x = .pointer (some ⟨b, k, none⟩)) (hl : vs.length = s) (hr : ∀ j c, vs[j]? = some c → Rd G L b (k + j) c) :
    PV P o σ G L (.agg vs.toArray) := by
  intro w hw
  have h := loadCells_run (P := P) s b k 0 #[] vs w hl (fun j c hc => by rw [Nat.zero_add]; exact hr j c hc w hw)
  simp only [Array.empty_append] at h
  simp [execOp, ho, hx, Instr.loadAt, Instr.sureAddr, loadVar, (hA w).1, (hA w).2, loadCells, h]
/-- a whole element that is a struct -/
theorem PV.loadE {α : Type} {F : FT α} {s : Nat} {i : Nat} {e : α} (ho : o.op = .load t x) (hA : Aggr P t F.sz) (hx : ev σ x = .pointer (some ⟨sb v, so v + i * s, none⟩)) (hs : s = F.sz) (hE : El G L F v i e) :
    PV P o σ G L (.agg (F.enc e).toArray) := by
  subst hs; exact PV.loadA ho hA hx (F.len e) hE
/-- a field of an element -/
theorem PV.loadF {α : Type} {F : FT α} {s : Nat} {i j : Nat} {e : α} {c : Value} (ho : o.op = .load t x) (hS : Scal P t) (hx : ev σ x = .pointer (some ⟨sb v, so v + i * s + j, none⟩)) (hs : s = F.sz) (hE : El G L F v i e) (hc : (F.enc e)[j]? = some c) :
    PV P o σ G L c := by
  subst hs; exact PV.load1 ho hS hx (hE j c hc)
theorem PV.len {m : Nat} (ho : o.op = .call { callee := .builtin .len, args := #[x], argTypes := #[T] }) {e : TypeId} (hT : P.underlying T = some (.slice e)) (hx : ev σ x = v) (hs : SlF G L v m) : PV P o σ G L (.int .i64 m) := by
  intro w hw
  obtain ⟨c, _, _, h⟩ := hs w hw
  have : ∃ a, v = .slice a m c := by rcases h with ⟨b, k, h⟩ | ⟨⟨a, h⟩, _⟩ <;> exact ⟨_, h⟩
  obtain ⟨a, rfl⟩ := this
  simp [execOp, ho, hx, resolve, invoke, builtin, Builtin.len_, run_underlying hT, goInt]
theorem PV.lenS {s : ByteArray} (ho : o.op = .call { callee := .builtin .len, args := #[x], argTypes := #[T] }) (hT : P.underlying T = some .string) (hx : ev σ x = .string s) : PV P o σ G L (.int .i64 s.size) := by
  intro w hw
  simp [execOp, ho, hx, resolve, invoke, builtin, Builtin.len_, run_underlying hT, goInt]
theorem PV.idxStr {s : ByteArray} {kd : IntKind} {i : Int} {j : Nat} {c : UInt8} (ho : o.op = .index T x y) (hT : P.underlying T = some .string) (hx : ev σ x = .string s) (hy : ev σ y = .int kd i) (hj : i = (j : Int)) (hc : s[j]? = some c) : PV P o σ G L (.int .u8 c.toNat) := by
  intro w hw
  subst hj
  simp [execOp, ho, hx, hy, Instr.index, asIntOf, run_underlying hT, hc]
theorem bytes_beq (a b : ByteArray) : (a.toList == b.toList) = decide (a = b) := by
  rw [ByteArray.toList_eq, ByteArray.toList_eq]
  obtain ⟨⟨x⟩⟩ := a
  obtain ⟨⟨y⟩⟩ := b
  by_cases h : x = y
  · subst h; simp
  · simp [h]
theorem PV.neqS {p q : ByteArray} (ho : o.op = .binOp .neq T x y T') (hx : ev σ x = .string p) (hy : ev σ y = .string q) : PV P o σ G L (.bool (!decide (p = q))) := by
  intro w hw
  simp [execOp, ho, hx, hy, eqGuard, binOp_string_neq, bytes_beq]
theorem PV.addS {p q : ByteArray} (ho : o.op = .binOp .add T x y T') (hx : ev σ x = .string p) (hy : ev σ y = .string q) (hl : p.size + q.size ≤ 9223372036854775807) : PV P o σ G L (.string (p ++ q)) := by
  intro w hw
  have : ¬ ((p.size + q.size : Nat) : Int) > IntKind.i64.max := by
    simp only [show IntKind.i64.max = 9223372036854775807 from rfl]; omega
  simp only [execOp, ho, hx, hy, eqGuard, binOp_string_add, Op.stringOp, this, if_false]
  simp
theorem getE {α : Type} {xs : List α} {i : Nat} (h : i < xs.length) : xs[i]? = some xs[i] := List.getElem?_eq_getElem h
theorem pre_eq {α : Type} {xs ys : List α} {i : Nat} (h : ∀ j, j < i → ys[j]? = xs[j]?) (hl : ys.length = xs.length) (hi : xs.length ≤ i) : ys = xs := by
  apply List.ext_getElem?
  intro j
  by_cases hj : j < i
  · exact h j hj
  · rw [List.getElem?_eq_none (by omega), List.getElem?_eq_none (by omega)]
/-- the element, whatever the index -/
@[irreducible] def gd {α : Type} [Inhabited α] (xs : List α) (i : Nat) : α := xs[i]?.getD default
theorem gd_eq {α : Type} [Inhabited α] {xs : List α} {i : Nat} (h : i < xs.length) : gd xs i = xs[i] := by simp [gd, h]
theorem getG {α : Type} [Inhabited α] {xs : List α} {i : Nat} (h : i < xs.length) : xs[i]? = some (gd xs i) := by simp [gd, h]
@[irreducible] def bt (s : ByteArray) (i : Nat) : UInt8 := s[i]?.getD 0
theorem bt_eq {s : ByteArray} {i : Nat} (h : i < s.size) : bt s i = s[i] := by simp [bt, h]
theorem getBG {s : ByteArray} {i : Nat} (h : i < s.size) : s[i]? = some (bt s i) := by simp [bt, h]
theorem PV.ext {j : Nat} {vs : Array Value} (ho : o.op = .extract x j) (hx : ev σ x = .tuple vs) (hv : vs[j]? = some v) : PV P o σ G L v := by
  intro w hw
  simp [execOp, ho, hx, Instr.extract, hv]
end
end Go.Proofs.YtcdigjhhmhkffaaDoor
namespace Go.Proofs.YtcdigjhhmhkffaaDoor
set_option linter.unusedVariables false
set_option linter.unusedSimpArgs false
open Go
theorem wh_push (w : World) (o : Obj) (b : Nat) : wh { w with heap := w.heap.push o } b = if b = w.heap.size then some o else wh w b := by
  simp only [wh, Array.getElem?_push]
theorem wh_none {w : World} {b : Nat} (h : w.heap.size ≤ b) : wh w b = none := by simp [wh, h]
theorem St.lt {G : Gh} {L : List Ch} {w : World} (h : St G L w) {b : Nat} {o : Obj} (hb : G.f b = some o) : b < w.heap.size := by
  obtain ⟨_, _, l, _, _⟩ := h
  have := l b o hb
  simp only [wh] at this
  exact (Array.getElem?_eq_some_iff.1 this).1
/-- a new block is a chunk of its own -/
theorem St.new {G : Gh} {L : List Ch} {w w' : World} (h : St G L w) (hq : Quiet w w') {o : Obj} (hw : ∀ b, wh w' b = if b = w.heap.size then some o else wh w b) {c : Ch} (hc : ∀ h : Hp, h w.heap.size = some o → c h) : St G (c :: L) w' := by
  obtain ⟨hp, s, l1, l2, d, ok⟩ := h
  have up : Hp.le (wh w) (wh w') := fun b x hb => by
    rw [hw, if_neg]
    · exact hb
    · intro e; rw [wh_none (Nat.le_of_eq e.symm)] at hb; cases hb
  have hn : hp w.heap.size = none := by
    cases hh : hp w.heap.size with
    | none => rfl
    | some x => have := l2 _ _ hh; rw [wh_none (Nat.le_refl _)] at this; cases this
  have gn : G.f w.heap.size = none := by
    cases hh : G.f w.heap.size with
    | none => rfl
    | some x => have := l1 _ _ hh; rw [wh_none (Nat.le_refl _)] at this; cases this
  refine ⟨fun b => if b = w.heap.size then some o else hp b, ⟨fun b => if b = w.heap.size then some o else none, hp, ?_, ?_, ?_, hc _ (by simp), s⟩, Hp.le_trans l1 up, ?_, ?_, Gh.ok_of ok hq⟩
  · intro b; by_cases e : b = w.heap.size
    · right; rw [e]; exact hn
    · left; simp [e]
  · intro b x hb; by_cases e : b = w.heap.size <;> simp_all
  · intro b x hb; by_cases e : b = w.heap.size
    · rw [e, hn] at hb; cases hb
    · simp [e, hb]
  · intro b x hb
    by_cases e : b = w.heap.size
    · subst e; rw [hw]; simpa using hb
    · simp only [e, if_false] at hb; exact up b x (l2 b x hb)
  · intro b; by_cases e : b = w.heap.size
    · right; rw [e]; exact gn
    · rcases d b with h | h
      · left; simp [e, h]
      · exact .inr h
/-- a write into the block of a chunk -/
theorem St.set {G : Gh} {L L' : List Ch} {w w' : World} {c c' : Ch} (h : St G L w) (hq : Quiet w w') (hx : Ex c L L') {b : Nat} (hb : ∀ h, c h → (h b).isSome = true) {o : Obj} (hw : ∀ x, wh w' x = if x = b then some o else wh w x)
    (hc : ∀ h : Hp, c h → Hp.le h (wh w) → c' (fun x => if x = b then some o else h x)) : St G (c' :: L') w' := by
  obtain ⟨hp, s, l1, l2, d, ok⟩ := h
  obtain ⟨h1, h2, d12, m1, m2, hc1, s2⟩ := hx.sep s
  have b1 := hb h1 hc1
  have b2 : h2 b = none := by rcases d12 b with h | h
                              · simp [h] at b1
                              · exact h
  have bg : G.f b = none := by
    rcases d b with h | h
    · obtain ⟨x, hx⟩ := Option.isSome_iff_exists.1 b1
      rw [m1 _ _ hx] at h; cases h
    · exact h
  refine ⟨fun x => if x = b then some o else hp x, ⟨fun x => if x = b then some o else h1 x, h2, ?_, ?_, ?_, hc h1 hc1 (Hp.le_trans m1 l2), s2⟩, ?_, ?_, ?_, Gh.ok_of ok hq⟩
  · intro x; by_cases e : x = b
    · right; rw [e]; exact b2
    · rcases d12 x with h | h
      · left; simp [e, h]
      · exact .inr h
  · intro x y hy; by_cases e : x = b
    · simp_all
    · simp only [e, if_false] at hy ⊢; exact m1 x y hy
  · intro x y hy; by_cases e : x = b
    · rw [e, b2] at hy; cases hy
    · simp only [e, if_false]; exact m2 x y hy
  · intro x y hy
    rw [hw, if_neg]
    · exact l1 x y hy
    · rintro rfl; rw [bg] at hy; cases hy
  · intro x y hy
    rw [hw]
    by_cases e : x = b
    · simp_all
    · simp only [e, if_false] at hy ⊢; exact l2 x y hy
  · intro x; by_cases e : x = b
    · right; rw [e]; exact bg
    · rcases d x with h | h
      · left; simp [e, h]
      · exact .inr h
section
variable {P : Program} {n : Nat} {σ : Nat → Value} {G : Gh} {L : List Ch} {o : Oper} {T T' t : TypeId} {x y z : Operand} {v u : Value} {K : (Nat → Value) → Gh → List Ch → Prop}
/-- an operation that yields v and leads to a state with (G', L'), whatever the world -/
theorem OT.ofRun (h : ∀ w, St G L w → ∃ v G' L' w', (execOp (ev σ) o).run P w = .ok (.value v) w' ∧ St G' L' w' ∧ K (updo σ o.dst v) G' L') : OT P n o σ G L K := by
  intro hk a w hag hs Q'
  obtain ⟨v, G', L', w', h1, h2, h3⟩ := h w hs
  unfold Oper.wp
  rw [hag.eval, h1]
  exact ⟨_, _, _, hag.put hk v, h2, h3⟩
theorem OT.ofRunU (h : ∀ w, St G L w → ∃ G' L' w', (execOp (ev σ) o).run P w = .ok .skip w' ∧ St G' L' w' ∧ K (updo σ o.dst undef) G' L') : OT P n o σ G L K := by
  intro hk a w hag hs Q'
  obtain ⟨G', L', w', h1, h2, h3⟩ := h w hs
  unfold Oper.wp
  rw [hag.eval, h1]
  exact ⟨_, _, _, hag.put hk undef, h2, h3⟩
def ZeroT (P : Program) (t : TypeId) (z : List Value) : Prop := ∃ v, (∀ w, (zeroValue t).run P w = .ok v w) ∧ v.cells.toList = z
/-- a value laid into a new variable -/
theorem OT.box {e : TypeId} {cs : List Value} (ho : o.op = .box e x) (hx : ev σ x = v) (hc : v.cells.toList = cs) (k : ∀ b, K (updo σ o.dst (.pointer (some ⟨b, 0, none⟩))) G (blk b e cs :: L)) : OT P n o σ G L K := by
  subst hc
  refine OT.ofRun fun w hs => ⟨_, G, _, { w with heap := w.heap.push (.cells v.cells e (0, 0)) }, ?_, hs.new (by exact ⟨rfl, rfl, rfl, Nat.le_refl _⟩) (wh_push w _) (c := blk w.heap.size e v.cells.toList) (fun h hb => ?_), k w.heap.size⟩
  · simp [execOp, ho, Instr.box, hx, newVar, newRow]
  · simpa [blk] using hb
def splice (cs : List Value) (k : Nat) : List Value → List Value
  | [] => cs
  | v :: vs => splice (cs.set k v) (k + 1) vs
theorem splice_length : ∀ (vs cs : List Value) (k : Nat), (splice cs k vs).length = cs.length
  | [], _, _ => rfl
  | v :: vs, cs, k => by simp [splice, splice_length vs]
theorem storeCells_run : ∀ (vs : List Value) (b k i : Nat) (c : Array Value) (e : TypeId) (w : World), (∀ v ∈ vs, v.oneCell' = true) → wh w b = some (.cells c e (0, 0)) → k + i + vs.length ≤ c.size →
    ∃ w', (storeCells ⟨b, k, none⟩ vs i).run P w = .ok () w' ∧ Quiet w w' ∧ ∀ x, wh w' x = if x = b then some (.cells (splice c.toList (k + i) vs).toArray e (0, 0)) else wh w x
  | [], b, k, i, c, e, w, _, hb, _ => by
    refine ⟨w, by simp [storeCells], ⟨rfl, rfl, rfl, Nat.le_refl _⟩, fun x => ?_⟩
    by_cases h : x = b
    · subst h; simp [hb, splice]
    · simp [h]
  | v :: vs, b, k, i, c, e, w, h1, hb, hl => by
    have hlt : k + i < c.size := by simp only [List.length_cons] at hl; omega
    have hcell : w.cell? ⟨b, k + i, none⟩ = some (c[k + i]) := by
      rw [cell_hc]; simp [Hc, hb, hlt]
    have hfr : w.frozen? ⟨b, k + i, none⟩ = false := by
      have hb' : w.heap[b]? = some (.cells c e (0, 0)) := hb
      simp [World.frozen?, hb']
    have hst : (store (Addr.add ⟨b, k, none⟩ i) v).run P w = .ok () (w.setCell ⟨b, k + i, none⟩ v) := by
      rw [add_none, run_store P w _ v _ (h1 v (.head _)), hcell]; simp [hfr]
    have hwh : ∀ x, wh (w.setCell ⟨b, k + i, none⟩ v) x = if x = b then some (.cells (c.setIfInBounds (k + i) v) e (0, 0)) else wh w x := by
      intro x
      have hb' : w.heap[b]? = some (.cells c e (0, 0)) := hb
      simp only [wh, World.setCell, Array.getElem?_modify]
      by_cases hxb : b = x
      · subst hxb; simp [hb']
      · simp [hxb, Ne.symm hxb]
    obtain ⟨w', hr, hq, hw'⟩ := storeCells_run vs b k (i + 1) (c.setIfInBounds (k + i) v) e (w.setCell ⟨b, k + i, none⟩ v) (fun u hu => h1 u (.tail _ hu)) (by rw [hwh]; simp) (by simp only [List.length_cons, Array.size_setIfInBounds] at *; omega)
    refine ⟨w', ?_, hq, fun x => ?_⟩
    · simp only [storeCells, Sem.run_bind, hst, Result.andThen_ok, hr]
    · rw [hw' x, hwh]
      by_cases hxb : x = b
      · subst hxb; simp [splice, Array.toList_setIfInBounds, Nat.add_assoc]
      · simp [hxb]
def allOne (vs : List Value) : Bool := vs.all (·.oneCell')
theorem allOne_all {vs : List Value} (h : allOne vs = true) : ∀ u ∈ vs, u.oneCell' = true := by simpa [allOne] using h
theorem oneCell_cells {v : Value} (h : v.oneCell' = true) : v.cells = #[v] := by cases v <;> simp_all [Value.cells, Value.oneCell']
/-- the value's cells, in every world of the state -/
def Cl (G : Gh) (L : List Ch) (v : Value) (cs : List Value) : Prop := ∀ w, St G L w → v.cells.toList = cs
theorem Cl.c {cs : List Value} (h : v.cells.toList = cs) : Cl G L v cs := fun _ _ => h
theorem Cl.s {m : Nat} (h : SlF G L v m) : Cl G L v [v] := fun w hs => by rw [oneCell_cells (h w hs).one]
/-- each of the values takes one cell -/
def OneC (G : Gh) (L : List Ch) (vs : List Value) : Prop := ∀ w, St G L w → allOne vs = true
theorem OneC.c {vs : List Value} (h : allOne vs = true) : OneC G L vs := fun _ _ => h
theorem OneC.nil : OneC G L [] := fun _ _ => rfl
theorem OneC.val {v : Value} {vs : List Value} (h : v.oneCell' = true) (k : OneC G L vs) : OneC G L (v :: vs) := fun w hs => by have := k w hs; simp only [allOne, List.all_cons, Bool.and_eq_true]; exact ⟨h, this⟩
theorem OneC.sl {v : Value} {vs : List Value} {m : Nat} (h : SlF G L v m) (k : OneC G L vs) : OneC G L (v :: vs) := fun w hs => OneC.val (h w hs).one k w hs
def OneL {α : Type} (G : Gh) (L : List Ch) (F : FT α) (ys : List α) : Prop := ∀ w, St G L w → ∀ a ∈ ys, allOne (F.enc a) = true
theorem OneL.c {α : Type} {F : FT α} {ys : List α} (h : ∀ a, allOne (F.enc a) = true) : OneL G L F ys := fun _ _ a _ => h a
theorem OneL.one {α : Type} {F : FT α} {a : α} (h : OneC G L (F.enc a)) : OneL G L F [a] := fun w hs b hb => by
  simp only [List.mem_singleton] at hb; subst hb; exact h w hs
theorem splice_all : ∀ (vs cs : List Value) (k : Nat), k + vs.length = cs.length → splice cs k vs = cs.take k ++ vs
  | [], cs, k, h => by simp only [List.length_nil, Nat.add_zero] at h; subst h; simp [splice]
  | v :: vs, cs, k, h => by
    simp only [List.length_cons] at h
    have hk : k < cs.length := by omega
    rw [splice, splice_all vs (cs.set k v) (k + 1) (by simp; omega), List.take_succ_eq_append_getElem (by simpa using hk)]
    have e : (List.take k cs).set k v = List.take k cs := List.set_eq_of_length_le (by simp; omega)
    simp [List.take_set, e]
theorem splice_take : ∀ (vs cs : List Value) (k m : Nat), k + vs.length ≤ m → m ≤ cs.length → (splice cs k vs).take m = splice (cs.take m) k vs
  | [], _, _, _, _, _ => rfl
  | v :: vs, cs, k, m, h, hm => by
    simp only [List.length_cons] at h
    rw [splice, splice, splice_take vs (cs.set k v) (k + 1) m (by omega) (by simpa using hm), List.take_set]
theorem splice_get : ∀ (vs cs : List Value) (k j : Nat), k + vs.length ≤ cs.length → (splice cs k vs)[j]? = if k ≤ j ∧ j < k + vs.length then vs[j - k]? else cs[j]?
  | [], cs, k, j, _ => by
    simp only [splice, List.length_nil, Nat.add_zero]; rw [if_neg (by omega)]
  | v :: vs, cs, k, j, h => by
    simp only [List.length_cons] at h
    rw [splice, splice_get vs (cs.set k v) (k + 1) j (by simp; omega)]
    simp only [List.length_cons]
    by_cases h1 : j = k
    · subst h1
      rw [if_neg (by omega), if_pos (by omega), Nat.sub_self, List.getElem?_set]
      simp [show j < cs.length by omega]
    · by_cases h2 : k + 1 ≤ j ∧ j < k + 1 + vs.length
      · rw [if_pos h2, if_pos (by omega), show j - k = (j - (k + 1)) + 1 by omega]; simp
      · rw [if_neg h2, if_neg (by omega), List.getElem?_set, if_neg (by omega)]
theorem flat_set {α : Type} (F : FT α) (xs : List α) (i : Nat) (a : α) (hi : i < xs.length) : F.flat (xs.set i a) = splice (F.flat xs) (i * F.sz) (F.enc a) := by
  have hle : i * F.sz + F.sz ≤ xs.length * F.sz := by
    have := Nat.mul_le_mul_right F.sz (show i + 1 ≤ xs.length by omega); rwa [Nat.add_mul, Nat.one_mul] at this
  apply List.ext_getElem?
  intro j
  rw [splice_get _ _ _ _ (by rw [F.len, F.flat_len]; exact hle), F.len]
  by_cases hs : F.sz = 0
  · have e1 : F.flat (xs.set i a) = [] := List.eq_nil_of_length_eq_zero (by rw [F.flat_len, hs]; simp)
    have e2 : F.flat xs = [] := List.eq_nil_of_length_eq_zero (by rw [F.flat_len, hs]; simp)
    rw [e1, e2, if_neg (by omega)]
  by_cases hj : j < xs.length * F.sz
  · have hq : j / F.sz < xs.length := (Nat.div_lt_iff_lt_mul (by omega)).2 hj
    have hr : j % F.sz < F.sz := Nat.mod_lt _ (by omega)
    have hjd : j / F.sz * F.sz + j % F.sz = j := by rw [Nat.mul_comm]; exact Nat.div_add_mod j F.sz
    have get : ∀ (ys : List α) (y : α), ys[j / F.sz]? = some y → (F.flat ys)[j]? = (F.enc y)[j % F.sz]? := fun ys y hy => by
      have hc : (F.enc y)[j % F.sz]? = some ((F.enc y)[j % F.sz]'(by rw [F.len]; exact hr)) := List.getElem?_eq_getElem _
      have := F.flat_get hy hc
      rw [hjd] at this; rw [this, hc]
    by_cases e : j / F.sz = i
    · rw [get (xs.set i a) a (by rw [e]; simp [hi]), if_pos (by rw [← e]; omega)]
      congr 1; rw [← e]; omega
    · rw [get (xs.set i a) (xs[j / F.sz]) (by rw [List.getElem?_set, if_neg (Ne.symm e)]; exact getE hq), get xs _ (getE hq), if_neg]
      rintro ⟨h1, h2⟩
      apply e
      have a1 : i ≤ j / F.sz := (Nat.le_div_iff_mul_le (by omega)).2 h1
      have a2 : j / F.sz < i + 1 := (Nat.div_lt_iff_lt_mul (by omega)).2 (by rw [Nat.add_mul, Nat.one_mul]; exact h2)
      omega
  · rw [if_neg (by omega), List.getElem?_eq_none (by rw [F.flat_len]; simp; omega), List.getElem?_eq_none (by rw [F.flat_len]; omega)]
end
end Go.Proofs.YtcdigjhhmhkffaaDoor
namespace Go.Proofs.YtcdigjhhmhkffaaDoor
set_option linter.unusedVariables false
set_option linter.unusedSimpArgs false
open Go
set_option linter.unusedVariables false
abbrev vi (n : Int) : Value := .int .i64 n
/-- a slice in memory: its header and its elements -/
structure Sl (α : Type) where
  v : Value
  xs : List α
instance {α : Type} : Inhabited (Sl α) := ⟨⟨.slice none 0 0, []⟩⟩
def slT {α : Type} : FT (Sl α) := ⟨1, fun s => [s.v], fun _ => rfl⟩
def byteT : FT UInt8 := ⟨1, fun c => [.int .u8 c.toNat], fun _ => rfl⟩
def strT : FT ByteArray := ⟨1, fun s => [.string s], fun _ => rfl⟩
structure Pt where
  x : Int
  y : Int
  deriving DecidableEq, Inhabited
@[reducible] def Pt.s0 (x : Int) (r : Pt) : Pt := ⟨x, r.y⟩
@[reducible] def Pt.s1 (x : Int) (r : Pt) : Pt := ⟨r.x, x⟩
structure Trans where
  o : Int
  x : Int
  y : Int
  deriving DecidableEq, Inhabited
@[reducible] def Trans.s0 (x : Int) (r : Trans) : Trans := ⟨x, r.x, r.y⟩
@[reducible] def Trans.s1 (x : Int) (r : Trans) : Trans := ⟨r.o, x, r.y⟩
@[reducible] def Trans.s2 (x : Int) (r : Trans) : Trans := ⟨r.o, r.x, x⟩
structure Rect where
  x0 : Int
  y0 : Int
  x1 : Int
  y1 : Int
  deriving DecidableEq, Inhabited
@[reducible] def Rect.s0 (x : Int) (r : Rect) : Rect := ⟨x, r.y0, r.x1, r.y1⟩
@[reducible] def Rect.s1 (x : Int) (r : Rect) : Rect := ⟨r.x0, x, r.x1, r.y1⟩
@[reducible] def Rect.s2 (x : Int) (r : Rect) : Rect := ⟨r.x0, r.y0, x, r.y1⟩
@[reducible] def Rect.s3 (x : Int) (r : Rect) : Rect := ⟨r.x0, r.y0, r.x1, x⟩
structure Edge where
  x0 : Int
  y0 : Int
  x1 : Int
  y1 : Int
  deriving DecidableEq, Inhabited
@[reducible] def Edge.s0 (x : Int) (r : Edge) : Edge := ⟨x, r.y0, r.x1, r.y1⟩
@[reducible] def Edge.s1 (x : Int) (r : Edge) : Edge := ⟨r.x0, x, r.x1, r.y1⟩
@[reducible] def Edge.s2 (x : Int) (r : Edge) : Edge := ⟨r.x0, r.y0, x, r.y1⟩
@[reducible] def Edge.s3 (x : Int) (r : Edge) : Edge := ⟨r.x0, r.y0, r.x1, x⟩
structure Waiver where
  sig : Int
  reason : ByteArray
  deriving DecidableEq, Inhabited
@[reducible] def waiverT : FT Waiver := ⟨2, fun r => [vi r.sig, .string r.reason], fun _ => rfl⟩
@[reducible] def Waiver.s0 (x : Int) (r : Waiver) : Waiver := ⟨x, r.reason⟩
@[reducible] def Waiver.s1 (x : ByteArray) (r : Waiver) : Waiver := ⟨r.sig, x⟩
structure Rule where
  kind : Int
  layer : Int
  other : Int
  value : Int
  percent : Int
  deriving DecidableEq, Inhabited
@[reducible] def Rule.s0 (x : Int) (r : Rule) : Rule := ⟨x, r.layer, r.other, r.value, r.percent⟩
@[reducible] def Rule.s1 (x : Int) (r : Rule) : Rule := ⟨r.kind, x, r.other, r.value, r.percent⟩
@[reducible] def Rule.s2 (x : Int) (r : Rule) : Rule := ⟨r.kind, r.layer, x, r.value, r.percent⟩
@[reducible] def Rule.s3 (x : Int) (r : Rule) : Rule := ⟨r.kind, r.layer, r.other, x, r.percent⟩
structure Deck where
  rules : Sl Rule
  deriving Inhabited
@[reducible] def Deck.s0 (x : Sl Rule) (r : Deck) : Deck := ⟨x⟩
structure Viol where
  rule : Int
  marker : Sl Rect
  deriving Inhabited
@[reducible] def Viol.s0 (x : Int) (r : Viol) : Viol := ⟨x, r.marker⟩
@[reducible] def Viol.s1 (x : Sl Rect) (r : Viol) : Viol := ⟨r.rule, x⟩
structure Piece where
  layer : Int
  reg : Sl Rect
  deriving Inhabited
@[reducible] def Piece.s0 (x : Int) (r : Piece) : Piece := ⟨x, r.reg⟩
@[reducible] def Piece.s1 (x : Sl Rect) (r : Piece) : Piece := ⟨r.layer, x⟩
structure Net where
  pieces : Sl Piece
  deriving Inhabited
@[reducible] def Net.s0 (x : Sl Piece) (r : Net) : Net := ⟨x⟩
structure Label where
  layer : Int
  at_ : Pt
  name : ByteArray
  deriving DecidableEq, Inhabited
@[reducible] def Label.s0 (x : Int) (r : Label) : Label := ⟨x, r.at_, r.name⟩
@[reducible] def Label.s1 (x : Pt) (r : Label) : Label := ⟨r.layer, x, r.name⟩
@[reducible] def Label.s2 (x : ByteArray) (r : Label) : Label := ⟨r.layer, r.at_, x⟩
structure Shape where
  layer : Int
  box : Rect
  deriving DecidableEq, Inhabited
@[reducible] def Shape.s0 (x : Int) (r : Shape) : Shape := ⟨x, r.box⟩
@[reducible] def Shape.s1 (x : Rect) (r : Shape) : Shape := ⟨r.layer, x⟩
@[reducible] def Shape.s1_3 (x : Int) (r : Shape) : Shape := Shape.s1 (Rect.s3 x r.box) r
structure Inst where
  cell : Int
  place : Trans
  cols : Int
  rows : Int
  sx : Int
  sy : Int
  deriving DecidableEq, Inhabited
@[reducible] def Inst.s0 (x : Int) (r : Inst) : Inst := ⟨x, r.place, r.cols, r.rows, r.sx, r.sy⟩
@[reducible] def Inst.s1 (x : Trans) (r : Inst) : Inst := ⟨r.cell, x, r.cols, r.rows, r.sx, r.sy⟩
@[reducible] def Inst.s2 (x : Int) (r : Inst) : Inst := ⟨r.cell, r.place, x, r.rows, r.sx, r.sy⟩
@[reducible] def Inst.s3 (x : Int) (r : Inst) : Inst := ⟨r.cell, r.place, r.cols, x, r.sx, r.sy⟩
structure Cell where
  name : ByteArray
  shapes : Sl Shape
  labels : Sl Label
  insts : Sl Inst
  deriving Inhabited
@[reducible] def Cell.s0 (x : ByteArray) (r : Cell) : Cell := ⟨x, r.shapes, r.labels, r.insts⟩
@[reducible] def Cell.s1 (x : Sl Shape) (r : Cell) : Cell := ⟨r.name, x, r.labels, r.insts⟩
@[reducible] def Cell.s2 (x : Sl Label) (r : Cell) : Cell := ⟨r.name, r.shapes, x, r.insts⟩
@[reducible] def Cell.s3 (x : Sl Inst) (r : Cell) : Cell := ⟨r.name, r.shapes, r.labels, x⟩
structure Lib where
  cells : Sl Cell
  deriving Inhabited
@[reducible] def Lib.s0 (x : Sl Cell) (r : Lib) : Lib := ⟨x⟩
structure Dev where
  kind : Int
  pins : Sl Int
  width : Int
  length : Int
  deriving Inhabited
@[reducible] def Dev.s0 (x : Int) (r : Dev) : Dev := ⟨x, r.pins, r.width, r.length⟩
@[reducible] def Dev.s1 (x : Sl Int) (r : Dev) : Dev := ⟨r.kind, x, r.width, r.length⟩
@[reducible] def Dev.s2 (x : Int) (r : Dev) : Dev := ⟨r.kind, r.pins, x, r.length⟩
@[reducible] def Dev.s3 (x : Int) (r : Dev) : Dev := ⟨r.kind, r.pins, r.width, x⟩
structure Chan where
  box : Rect
  kind : Int
  hor : Bool
  deriving DecidableEq, Inhabited
@[reducible] def Chan.s0 (x : Rect) (r : Chan) : Chan := ⟨x, r.kind, r.hor⟩
@[reducible] def Chan.s1 (x : Int) (r : Chan) : Chan := ⟨r.box, x, r.hor⟩
@[reducible] def Chan.s2 (x : Bool) (r : Chan) : Chan := ⟨r.box, r.kind, x⟩
structure PPiece where
  occ : Int
  piece : Piece
  deriving Inhabited
@[reducible] def PPiece.s0 (x : Int) (r : PPiece) : PPiece := ⟨x, r.piece⟩
@[reducible] def PPiece.s1 (x : Piece) (r : PPiece) : PPiece := ⟨r.occ, x⟩
structure Occ where
  cell : Int
  place : Trans
  path : Sl Int
  deriving Inhabited
@[reducible] def Occ.s0 (x : Int) (r : Occ) : Occ := ⟨x, r.place, r.path⟩
@[reducible] def Occ.s1 (x : Trans) (r : Occ) : Occ := ⟨r.cell, x, r.path⟩
@[reducible] def Occ.s2 (x : Sl Int) (r : Occ) : Occ := ⟨r.cell, r.place, x⟩
structure Part where
  layer : Int
  cells : Sl Bool
  deriving Inhabited
@[reducible] def Part.s0 (x : Int) (r : Part) : Part := ⟨x, r.cells⟩
@[reducible] def Part.s1 (x : Sl Bool) (r : Part) : Part := ⟨r.layer, x⟩
structure HElem where
  cell : Int
  place : Trans
  deriving DecidableEq, Inhabited
@[reducible] def HElem.s0 (x : Int) (r : HElem) : HElem := ⟨x, r.place⟩
@[reducible] def HElem.s1 (x : Trans) (r : HElem) : HElem := ⟨r.cell, x⟩
structure RShape where
  root : Int
  shape : Shape
  deriving DecidableEq, Inhabited
@[reducible] def RShape.s0 (x : Int) (r : RShape) : RShape := ⟨x, r.shape⟩
@[reducible] def RShape.s1 (x : Shape) (r : RShape) : RShape := ⟨r.root, x⟩
structure Plc where
  pieces : Sl Piece
  poly : Sl Rect
  deriving Inhabited
@[reducible] def Plc.s0 (x : Sl Piece) (r : Plc) : Plc := ⟨x, r.poly⟩
@[reducible] def Plc.s1 (x : Sl Rect) (r : Plc) : Plc := ⟨r.pieces, x⟩
structure HNet where
  net : Net
  occs : Sl Int
  deriving Inhabited
@[reducible] def HNet.s0 (x : Net) (r : HNet) : HNet := ⟨x, r.occs⟩
@[reducible] def HNet.s1 (x : Sl Int) (r : HNet) : HNet := ⟨r.net, x⟩
/-- a struct as a value -/
abbrev vT {α : Type} (F : FT α) (a : α) : Value := .agg (F.enc a).toArray
abbrev vwaiver (w : Waiver) : Value := vT waiverT w
end Go.Proofs.YtcdigjhhmhkffaaDoor
namespace Go.Proofs.YtcdigjhhmhkffaaDoor
set_option linter.unusedVariables false
set_option linter.unusedSimpArgs false
open Go Go.ChangeShapes Go.WideShapes Go.ChangeAt Go.RowKit Go.Deep
set_option linter.unusedVariables false
def Gw (w : World) : Gh := ⟨wh w, w.os, w.tape, w.output, w.drawn⟩
def Opn {ρ : Type} (P : Program) (t : TypeId) (F : FT ρ) (ok : Gh → ρ → Prop) : Prop :=
  ∀ {H : Type} {enc : TypeId × Value → H} {w : World} {fuel : Nat} {cs : List Value} {x : DataW H × List MemPlace}, DataW.trod enc P w 0 (fun _ => true) true fuel t cs = some x → ∃ a : ρ, cs = F.enc a ∧ ok (Gw w) a
def okS (_ : Gh) (s : ByteArray) : Prop := s.size ≤ 9223372036854775807
section
variable {P : Program} {t e : TypeId}
theorem opnS (ht : P.underlying t = some .string) : Opn P t strT okS := fun h => by
  obtain ⟨s, rfl, _, hs⟩ := DataW.trod_string ht h
  refine ⟨s, rfl, ?_⟩
  simp only [maxLen] at hs
  exact (by omega : s.size ≤ 9223372036854775807)
end
section
variable {P : Program} {t e : TypeId} {H : Type} {enc : TypeId × Value → H} {W : World} {r : Reach} {base : Nat} {v : Value} {d : DataW H} {ps : List MemPlace}
theorem argS (ht : P.underlying t = some .string) (hv : Value.okWide P W r base t v) (h : DataW.Trod enc P W 0 (fun _ => true) true t v d ps) : ∃ n, v = .string n ∧ okS (Gw W) n := by
  obtain ⟨n, rfl⟩ := okWide_string ht hv
  obtain ⟨fuel, hf⟩ := h
  obtain ⟨m, e1, hm⟩ := opnS ht hf
  simp [Value.cells, strT] at e1
  exact ⟨n, rfl, e1 ▸ hm⟩
theorem trodAll_stays (hl : laidOutB P = true) {W' : World} (hb : Below W.heap.size W W') : ∀ {ts : List TypeId} {vs : List Value} {ds : List (DataW H)} {ps : List MemPlace}, (∀ t ∈ ts, P.readableRec t = true ∧ t < P.types.size) → (∀ x ∈ ps, x.block < W.heap.size) →
    DataW.TrodAll enc P W 0 (fun _ => true) true ts vs ds ps → DataW.TrodAll enc P W' 0 (fun b => decide (b < W.heap.size)) true ts vs ds ps
  | [], [], [], _, _, _, h => h
  | t :: ts, v :: vs, d :: ds, ps, hr, hlt, h => by
    obtain ⟨p, q, h1, h2, rfl⟩ := h
    have := hr t (.head _)
    exact ⟨p, q, Below.trod hl this.1 this.2 h1 hb (fun x hx => hlt x (List.mem_append_left _ hx)), trodAll_stays hl hb (fun t ht => hr t (.tail _ ht)) (fun x hx => hlt x (List.mem_append_right _ hx)) h2, rfl⟩
end
def recsB (P : Program) (ts : List TypeId) : Bool := ts.all fun t => P.readableRec t && Nat.blt t P.types.size
theorem recs_of {P : Program} {ts : List TypeId} (h : recsB P ts = true) : ∀ t ∈ ts, P.readableRec t = true ∧ t < P.types.size := by
  intro t ht
  have := List.all_eq_true.1 h t ht
  simp only [Bool.and_eq_true] at this
  exact ⟨this.1, Nat.le_of_ble_eq_true this.2⟩
end Go.Proofs.YtcdigjhhmhkffaaDoor
namespace Go.Proofs.YtcdigjhhmhkffaaDoor
set_option linter.unusedVariables false
set_option linter.unusedSimpArgs false
open Go
/-- the text of some bytes -/
def txt (bs : List UInt8) : ByteArray := ⟨bs.toArray⟩
theorem txt_size (bs : List UInt8) : (txt bs).size = bs.length := by simp [txt, ByteArray.size]
section
variable {P : Program} {σ : Nat → Value} {G : Gh} {L : List Ch} {o : Oper}
theorem PV.convBS {T T' e : TypeId} {x : Operand} {v : Value} {bs : List UInt8} (ho : o.op = .convert T T' x) (hu : P.underlying T = some (.slice e)) (he : P.underlying e = some (.int .u8)) (hd : P.underlying T' = some .string) (hx : ev σ x = v) (h : Rs G L byteT v bs) : PV P o σ G L (.string (txt bs)) := by
  intro w hw
  obtain ⟨⟨c, hc1, hc2, hsl⟩, hg⟩ := h w hw
  rcases hsl with ⟨b, k, rfl⟩ | ⟨⟨a, rfl⟩, h0⟩
  · have hr := run_convert_bytes_arg w T e hu he b k bs.length c (bs.map fun b => (b.toNat : Int)) (by simp) (fun i hi => by
      have := hg i (.int .u8 ((bs.map fun b => (b.toNat : Int)).getD i 0)) (by
        rw [show i = i * byteT.sz + 0 by simp [byteT]]
        refine byteT.flat_get (x := bs[i]) (List.getElem?_eq_getElem hi) ?_
        simp [byteT, hi])
      simpa [sb, so] using this) T' hd
    have e1 : strOfNums (bs.map fun b => (b.toNat : Int)) = txt bs := by
      simp only [strOfNums, txt, List.map_map]
      congr 2
      conv => rhs; rw [← List.map_id bs]
      apply List.map_congr_left
      intro b _
      simp
    simp [execOp, ho, hx, hr, e1]
  · have hb : bs = [] := List.eq_nil_of_length_eq_zero h0
    subst hb
    cases a with
    | none => simp [execOp, ho, hx, run_convert_bytes_nil w T e hu he _ _ T' hd, txt, ByteArray.empty, ByteArray.emptyWithCapacity]; rfl
    | some a =>
      simp only [List.length_nil] at hx
      simp [execOp, ho, hx, run_convert_bytes_string w T T' e _ _ _ hu he hd, Conv.bytesToString, loadCells, loadCellsFrom, txt, ByteArray.empty, ByteArray.emptyWithCapacity]; rfl
end
def mtGo : Nat → Nat → ByteArray → ByteArray
  | 0, _, out => out
  | f + 1, k, out => if k = 0 then out else mtGo f (k / 10) (txt [UInt8.ofNat (48 + k % 10)] ++ out)
theorem mtGo_zero (f : Nat) (out : ByteArray) : mtGo f 0 out = out := by cases f <;> simp [mtGo]
theorem mtGo_step {f k : Nat} {out : ByteArray} (h : 0 < k) : mtGo (f + 1) k out = mtGo f (k / 10) (txt [UInt8.ofNat (48 + k % 10)] ++ out) := by rw [mtGo, if_neg (by omega)]
def mText (k : Int) : ByteArray := if k ≤ 0 then txt [109, 48] else txt [109] ++ mtGo k.toNat k.toNat ByteArray.empty
end Go.Proofs.YtcdigjhhmhkffaaDoor
namespace Go.Proofs.YtcdigjhhmhkffaaDoor
set_option linter.unusedVariables false
set_option linter.unusedSimpArgs false
open Go
set_option linter.unusedVariables false
theorem osl_row {α : Type} {F : FT α} {e : TypeId} {v : Value} {xs : List α} {h : Hp} {w : World} (hc : osl e F v xs h) (hl : Hp.le h (wh w)) : w.ownsRow 0 e F.sz v xs.length (F.flat xs) := by
  refine ⟨F.flat_len xs, ?_⟩
  rcases hc with ⟨rfl, rfl⟩ | ⟨b, cap, c, rfl, hb, h1, h2, h3, h4⟩
  · exact .inl ⟨rfl, rfl⟩
  · exact .inr ⟨b, cap, c, rfl, Nat.zero_le _, hl b _ hb, h1, h2, h3, h4⟩
theorem row_osl {α : Type} {F : FT α} {e : TypeId} {v : Value} {ys : List α} {w : World} (hr : w.ownsRow 0 e F.sz v ys.length (F.flat ys)) : osl e F v ys (fun b => if v.ownBlock = some b then wh w b else none) := by
  rcases hr.2 with ⟨rfl, h0⟩ | ⟨b, cap, c, rfl, _, hb, h1, h2, h3, h4⟩
  · exact .inl ⟨rfl, List.eq_nil_of_length_eq_zero h0⟩
  · refine .inr ⟨b, cap, c, rfl, ?_, h1, h2, h3, h4⟩
    simp only [Value.ownBlock, if_true]; exact hb
theorem osl_own {α : Type} {F : FT α} {e : TypeId} {v : Value} {xs : List α} {h : Hp} (hc : osl e F v xs h) {b : Nat} (hb : v.ownBlock = some b) : (h b).isSome = true := by
  rcases hc with ⟨rfl, rfl⟩ | ⟨b', cap, c, rfl, hb', _⟩
  · simp [Value.ownBlock] at hb
  · simp [Value.ownBlock] at hb; subst hb; simp [hb']
/-- an owned slice that has been written, or has moved to a new block -/
theorem St.row {α β : Type} {F : FT α} {F' : FT β} {e e' : TypeId} {v v' : Value} {xs : List α} {ys : List β} {G : Gh} {L L' : List Ch} {w w' : World} (hs : St G L w) (hx : Ex (osl e F v xs) L L') (hg : w.grownBy w' v.ownBlock)
    (ho : v'.ownBlock = v.ownBlock ∨ v'.ownBlock = some w.heap.size) (hr : w'.ownsRow 0 e' F'.sz v' ys.length (F'.flat ys)) (hdr : w.drawn ≤ w'.drawn) : St G (osl e' F' v' ys :: L') w' := by
  obtain ⟨hp, s, l1, l2, d, ok⟩ := hs
  obtain ⟨h1, h2, d12, m1, m2, hc1, s2⟩ := hx.sep s
  have old : ∀ b o, wh w b = some o → b < w.heap.size := fun b o h => (Array.getElem?_eq_some_iff.1 h).1
  have own2 : ∀ b, v'.ownBlock = some b → h2 b = none := by
    intro b hb
    cases hh : h2 b with
    | none => rfl
    | some o =>
      exfalso
      rcases ho with h | h
      · have := osl_own hc1 (h ▸ hb)
        rcases d12 b with h' | h'
        · simp [h'] at this
        · rw [h'] at hh; cases hh
      · rw [h] at hb
        have hb' : w.heap.size = b := by simpa using hb
        have := old b o (l2 _ _ (m2 b o hh)); omega
  have notOwn : ∀ b o, hp b = some o → h2 b = some o → some b ≠ v.ownBlock := by
    intro b o _ h2b e
    have := osl_own hc1 e.symm
    rcases d12 b with h' | h'
    · simp [h'] at this
    · rw [h'] at h2b; cases h2b
  have keep2 : Hp.le h2 (wh w') := fun b o h => by
    have hw := l2 _ _ (m2 b o h)
    have := hg.block b (old b o hw) (notOwn b o (m2 b o h) h)
    show w'.heap[b]? = some o
    rw [this]; exact hw
  have gOwn : ∀ b o, G.f b = some o → some b ≠ v.ownBlock := by
    intro b o hb e
    have := osl_own hc1 e.symm
    obtain ⟨x, hx⟩ := Option.isSome_iff_exists.1 this
    rcases d b with h' | h'
    · rw [m1 _ _ hx] at h'; cases h'
    · rw [h'] at hb; cases hb
  refine ⟨fun b => if v'.ownBlock = some b then wh w' b else h2 b, ⟨fun b => if v'.ownBlock = some b then wh w' b else none, h2, ?_, ?_, ?_, row_osl hr, s2⟩, ?_, ?_, ?_, Gh.ok_of ok ⟨hg.os, hg.tape, hg.output, hdr⟩⟩
  · intro b; by_cases e : v'.ownBlock = some b
    · exact .inr (own2 b e)
    · left; simp [e]
  · intro b o hb; by_cases e : v'.ownBlock = some b <;> simp_all
  · intro b o hb; by_cases e : v'.ownBlock = some b
    · rw [own2 b e] at hb; cases hb
    · simp [e, hb]
  · intro b o hb
    have hw := l1 b o hb
    have := hg.block b (old b o hw) (gOwn b o hb)
    show w'.heap[b]? = some o
    rw [this]; exact hw
  · intro b o hb; by_cases e : v'.ownBlock = some b
    · simpa [e] using hb
    · simp only [e, if_false] at hb; exact keep2 b o hb
  · intro b; by_cases e : v'.ownBlock = some b
    · right
      cases hh : G.f b with
      | none => rfl
      | some o =>
        exfalso
        rcases ho with h | h
        · exact gOwn b o hh (by rw [← h, e])
        · rw [h] at e
          have hb' : w.heap.size = b := by simpa using e
          have := old b o (l1 b o hh); omega
    · rcases d b with h' | h'
      · left; simp only [e, if_false]
        cases hh : h2 b with
        | none => rfl
        | some o => rw [m2 b o hh] at h'; cases h'
      · exact .inr h'
/-- an append draws, or does not: the count of draws never falls -/
theorem append_drawn {P : Program} (w : World) (t ty e : TypeId) (i : TypeInfo) (z : Value) (size bytes : Nat) (ht : P.underlying t = some (.slice e)) (hi : P.info? e = some i) (hz : i.zero = some z)
    (hsize : i.size = size) (hby : i.bytes = bytes) (hzs : z.cells.size = size) (hsz : 0 < size)
    (v : Value) (n : Nat) (xs : List Value) (hown : w.ownsRow 0 e size v n xs)
    (a : Addr) (m c : Nat) (news : List Value) (hl : news.length = m * size) (hnews : ∀ j u, news[j]? = some u → w.cell? (a.add j) = some u) (h1 : ∀ u ∈ news, u.oneCell' = true)
    (h63 : n + m ≤ maxLen) (hbytes : (n + m) * bytes ≤ 140737488355328) {v' : Value} {w' : World}
    (hr : (Builtin.append_ #[t, t] ty #[v, .slice (some a) m c]).run P w = .ok v' w') : w.drawn ≤ w'.drawn := by
  subst hsize
  subst hby
  have hsmall : n + m ≤ 9223372036854775807 := by simp only [maxLen] at h63; omega
  rcases hown.2 with ⟨rfl, rfl⟩ | ⟨g, cap, cur, rfl, hbg, hg, hnc, hcm, hcs, htake⟩
  · have hx : xs = [] := List.eq_nil_of_length_eq_zero (by simpa using hown.1)
    subst hx
    by_cases hm : m = 0
    · subst hm
      have hn : news = [] := List.eq_nil_of_length_eq_zero (by simpa using hl)
      subst hn
      have hr2 : (Builtin.append_ #[t, t] ty #[.slice none 0 0, .slice (some a) 0 c]).run P w = .ok (.slice none 0 0) w := by
        simp [Builtin.append_, run_underlying ht, sizeOf, typeInfo, hi, Builtin.lenOf, Builtin.firstCells, loadCells, loadCellsFrom]
      rw [hr2] at hr; cases hr; exact Nat.le_refl _
    · have hr2 := run_append_nil (P := P) w t ty e i z ht hi hz a m c news hl hnews (by omega) (by omega) (by have hb := hbytes; simp only [Nat.zero_add] at hb; omega)
      rw [hr2] at hr; cases hr; exact Nat.le_succ _
  · by_cases hroom : n + m ≤ cap
    · have hfit : n * i.size + news.length ≤ cur.size := by rw [hl, hcs, ← Nat.add_mul]; exact Nat.mul_le_mul_right _ hroom
      have hr2 := run_append_room (P := P) w t ty e i ht hi g n cap cur hg a m c news hl hnews h1 hroom hfit
      rw [hr2] at hr; cases hr; exact Nat.le_refl _
    · have holds : ∀ j u, xs[j]? = some u → w.cell? ((⟨g, 0, none⟩ : Addr).add j) = some u := hown.cells (g := g) rfl
      have hr2 := run_append_grow (P := P) w t ty e i z ht hi hz ⟨g, 0, none⟩ n cap xs hown.1 holds a m c news hl hnews (by omega) (by omega) (growslice_fits (by omega) hbytes)
      rw [hr2] at hr; cases hr; exact Nat.le_succ _
structure ElemT (P : Program) (t e : TypeId) (s bytes : Nat) (z : List Value) : Prop where
  u : P.underlying t = some (.slice e)
  i : ∃ i zv, P.info? e = some i ∧ i.size = s ∧ i.bytes = bytes ∧ i.zero = some zv ∧ zv.cells.toList = z
def elemB (P : Program) (t : Nat) : Option (Nat × Nat × Nat × Option (List Value)) :=
  match P.underlying t with
  | some (.slice e) => (P.info? e).map fun i => (e, i.size, i.bytes, i.zero.map fun z => z.cells.toList)
  | _ => none
theorem elemT_of {P : Program} {t e s bytes : Nat} {z : List Value} (h : elemB P t = some (e, s, bytes, some z)) : ElemT P t e s bytes z := by
  unfold elemB at h
  split at h
  · rename_i e' hu
    simp only [Option.map_eq_some_iff, Prod.mk.injEq] at h
    obtain ⟨i, hi, rfl, h1, h2, zv, h3, h4⟩ := h
    exact ⟨hu, i, zv, hi, h1, h2, h3, h4⟩
  · cases h
section
variable {P : Program} {n : Nat} {σ : Nat → Value} {G : Gh} {L : List Ch} {o : Oper} {T T' t : TypeId} {x y : Operand} {v u : Value} {K : (Nat → Value) → Gh → List Ch → Prop}
theorem OT.append {α : Type} {F : FT α} {e : TypeId} {bytes : Nat} {z : List Value} {xs ys : List α} {L' : List Ch} (ho : o.op = .call { callee := .builtin .append, args := #[x, y], argTypes := #[t, t] }) (hT : ElemT P t e F.sz bytes z) (hz : z.length = F.sz) (hs0 : 0 < F.sz)
    (hx : ev σ x = v) [hX : ExS v L α e F xs L'] (hy : ev σ y = u) (hu : Rs G L F u ys) (h1 : OneL G L F ys) (hb' : Nat.ble bytes 512 = true) (hb2' : xs.length + ys.length ≤ 274877906944)
    (k : ∀ v', K (updo σ o.dst v') G (osl e F v' (xs ++ ys) :: L')) : OT P n o σ G L K := by
  obtain ⟨hu1, i, zv, hi, hi1, hi2, hi3, hi4⟩ := hT
  have hb2 : xs.length + ys.length ≤ 9223372036854775807 := by omega
  have hb : (xs.length + ys.length) * bytes ≤ 140737488355328 := Nat.le_trans (Nat.mul_le_mul hb2' (Nat.le_of_ble_eq_true hb')) (by decide)
  refine OT.ofRun fun w hs => ?_
  have hrow : w.ownsRow 0 e F.sz v xs.length (F.flat xs) := by
    obtain ⟨hp, s, l1, l2, d⟩ := hs
    obtain ⟨g1, g2, _, m1, _, cc, _⟩ := hX.ex.sep s
    exact osl_row cc (Hp.le_trans m1 l2)
  have hzs : zv.cells.size = F.sz := by rw [← hz, ← hi4]; simp
  obtain ⟨⟨c, hc1, hc2, hsl⟩, hget⟩ := hu w hs
  have h1' : ∀ q ∈ F.flat ys, q.oneCell' = true := by
    intro q hq
    obtain ⟨a, ha, hqa⟩ := List.mem_flatMap.1 hq
    exact allOne_all (h1 w hs a ha) q hqa
  have h63 : xs.length + ys.length ≤ maxLen := by simp only [maxLen]; omega
  have hap : F.flat (xs ++ ys) = F.flat xs ++ F.flat ys := by simp [FT.flat]
  rcases hsl with ⟨b, k0, rfl⟩ | ⟨⟨ua, rfl⟩, h0⟩
  · obtain ⟨v', w', hr, hown, hgr, _, hat⟩ := run_append_own_at (P := P) w 0 t o.type e i zv F.sz bytes hu1 hi hi3 hi1 hi2 hzs hs0 v xs.length (F.flat xs) hrow ⟨b, k0, none⟩ ys.length c (F.flat ys) (F.flat_len ys)
      (fun j q hq => by rw [add_none]; exact hget j q hq) h1' h63 hb (Nat.zero_le _)
    refine ⟨v', G, _, w', ?_, hs.row hX.ex hgr hat (by rw [List.length_append, hap]; exact hown) (append_drawn w t o.type e i zv F.sz bytes hu1 hi hi3 hi1 hi2 hzs hs0 v xs.length (F.flat xs) hrow ⟨b, k0, none⟩ ys.length c (F.flat ys) (F.flat_len ys) (fun j q hq => by rw [add_none]; exact hget j q hq) h1' h63 hb hr), k v'⟩
    simp [execOp, ho, resolve, invoke, builtin, hx, hy, hr]
  · have hys : ys = [] := List.eq_nil_of_length_eq_zero h0
    subst hys
    have hv : ∃ a n c, v = .slice a n c ∧ n = xs.length ∧ n ≤ c := by
      rcases hrow.2 with ⟨rfl, h⟩ | ⟨g, cap, cur, rfl, _, _, h, _⟩
      · exact ⟨none, 0, 0, rfl, h.symm, Nat.le_refl _⟩
      · exact ⟨_, _, cap, rfl, rfl, h⟩
    obtain ⟨a, m, cp, rfl, rfl, hmc⟩ := hv
    refine ⟨.slice a xs.length cp, G, _, w, ?_, hs.row hX.ex ⟨rfl, rfl, rfl, Nat.le_refl _, fun _ _ _ => rfl⟩ (.inl rfl) (by simpa using hrow) (Nat.le_refl _), by simpa using k _⟩
    have hf : (Builtin.append_ #[t, t] o.type #[.slice a xs.length cp, .slice ua 0 c]).run P w = .ok (.slice a xs.length cp) w := by
      cases a <;> cases ua <;> simp [loadCells, loadCellsFrom, Builtin.append_, run_underlying hu1, sizeOf, typeInfo, hi, Builtin.lenOf, hmc, Builtin.firstCells, storeCells]
    simp only [List.length_nil] at hy
    simp [execOp, ho, resolve, invoke, builtin, hx, hy, hf]
/-- the parts of a literal, in order, lay these elements -/
def BV {α : Type} (F : FT α) (σ : Nat → Value) (G : Gh) (L : List Ch) : Nat → List (Nat × Operand) → List α → Prop
  | _, [], [] => True
  | i, (j, x) :: ps, a :: az => j = i ∧ Cl G L (ev σ x) (F.enc a) ∧ BV F σ G L (i + 1) ps az
  | _, _, _ => False
theorem foldl_splice : ∀ (l : List Value) (k : Nat) (cs : Array Value) (off : Nat), (l.zipIdx k).foldl (fun cs (c, j) => cs.setIfInBounds (off + j) c) cs = (splice cs.toList (off + k) l).toArray
  | [], k, cs, off => by simp [splice]
  | c :: l, k, cs, off => by
    simp only [List.zipIdx_cons, List.foldl_cons]
    rw [foldl_splice l (k + 1) _ off]
    simp [splice, Nat.add_assoc]
theorem fill_run {α : Type} {F : FT α} {w : World} (hw : St G L w) : ∀ (ps : List (Nat × Operand)) (az : List α) (i : Nat) (cs : Array Value), BV F σ G L i ps az → cs.size = (i + az.length) * F.sz →
    Instr.fill (fun i => some (i * F.sz, F.sz)) cs (ps.map fun p => (p.1, ev σ p.2)) = some ((cs.toList.take (i * F.sz) ++ F.flat az).toArray)
  | [], [], i, cs, _, hs => by
    simp only [List.length_nil, Nat.add_zero] at hs
    simp only [List.map_nil, Instr.fill, FT.flat, List.flatMap_nil, List.append_nil, ← hs]
    rw [List.take_of_length_le (by simp)]
  | (j, x) :: ps, a :: az, i, cs, ⟨hj, hc, hb⟩, hs => by
    subst hj
    have hc := hc w hw
    have hsz : (ev σ x).cells.size = F.sz := by rw [← F.len a, ← hc]; simp
    have hfit : j * F.sz + F.sz ≤ cs.size := by
      rw [hs, List.length_cons]
      have := Nat.mul_le_mul_right F.sz (show j + 1 ≤ j + (az.length + 1) by omega)
      rwa [Nat.add_mul, Nat.one_mul] at this
    simp only [List.map_cons, Instr.fill, hsz, ne_eq, not_true_eq_false, decide_false, Bool.false_or]
    rw [if_neg (by simp; omega)]
    have e1 : Array.foldl (fun cs (x : Value × Nat) => cs.setIfInBounds (j * F.sz + x.2) x.1) cs (ev σ x).cells.zipIdx = (splice cs.toList (j * F.sz) (F.enc a)).toArray := by
      rw [← Array.foldl_toList, Array.toList_zipIdx, hc]
      exact foldl_splice (F.enc a) 0 cs (j * F.sz)
    have e2 := fill_run hw ps az (j + 1) (splice cs.toList (j * F.sz) (F.enc a)).toArray hb (by
      simp only [List.size_toArray, splice_length, Array.length_toList, hs, List.length_cons]; congr 1; omega)
    have e3 : (splice cs.toList (j * F.sz) (F.enc a)).take ((j + 1) * F.sz) = cs.toList.take (j * F.sz) ++ F.enc a := by
      have hm : (j + 1) * F.sz = j * F.sz + F.sz := by rw [Nat.add_mul, Nat.one_mul]
      rw [splice_take _ _ _ _ (by rw [F.len]; omega) (by simpa [hm] using hfit), splice_all _ _ _ (by rw [F.len, List.length_take, Array.length_toList, hm]; omega), List.take_take, Nat.min_eq_left (by omega)]
    simp only [e1]
    rw [e2]
    simp only [e3, FT.flat, List.flatMap_cons, List.append_assoc]
theorem OT.bslice {α : Type} {F : FT α} {e : TypeId} {bytes m : Nat} {z : List Value} {ps : List (Nat × Operand)} {els : List α} (ho : o.op = .buildSlice t m ps.toArray) (hT : ElemT P t e F.sz bytes z) (hz : z.length = F.sz) (hs0 : 0 < F.sz) (hm : els.length = m) (hb : m * F.sz ≤ 16777216) (hv : BV F σ G L 0 ps els)
    (k : ∀ v', K (updo σ o.dst v') G (osl e F v' els :: L)) : OT P n o σ G L K := by
  obtain ⟨hu1, i, zv, hi, hi1, hi2, hi3, hi4⟩ := hT
  refine OT.ofRun fun w hs => ?_
  subst hm
  have hb' : ¬ 2 ^ 24 < els.length * F.sz := by omega
  have key : ∀ zc : Array Value, (Instr.fill (fun i => some (i * F.sz, F.sz)) (Array.map (fun j => zc[j % zc.size]!) (Array.range (els.length * F.sz))) (ps.map fun p => (p.1, ev σ p.2))) = some (F.flat els).toArray := fun zc => by
    have := fill_run (F := F) hs ps els 0 (Array.map (fun j => zc[j % zc.size]!) (Array.range (els.length * F.sz))) hv (by simp)
    simpa using this
  refine ⟨.slice (some ⟨w.heap.size, 0, none⟩) els.length els.length, G, _, { w with heap := w.heap.push (.cells (F.flat els).toArray e (0, 0)) }, ?_, hs.new (by exact ⟨rfl, rfl, rfl, Nat.le_refl _⟩) (wh_push w _) (c := osl e F (.slice (some ⟨w.heap.size, 0, none⟩) els.length els.length) els) (fun h hh => ?_), k _⟩
  · have hz0 : (zeroValue e).run P w = .ok zv w := by simp [zeroValue, typeInfo, hi, hi3]
    by_cases h0 : els.length * F.sz = 0
    · have kk := key #[]
      simp only [execOp, ho, Instr.buildSlice, Sem.run_bind, run_underlying hu1, Result.andThen_ok, sizeOf, typeInfo, run_program, hi, Sem.run_pure, hi1, Sem.run_ite, h0, if_true]
      rw [if_neg (by omega)]
      simp only [List.map_toArray, List.toList_toArray, h0] at kk ⊢
      simp only [kk]
      simp [newRow]
    · have kk := key zv.cells
      have kk' : (if 2 ^ 24 < els.length * F.sz then (1 : Nat) else 0) = 0 := by rw [if_neg hb']
      have hgt : ¬ (els.length * F.sz > 2 ^ 24) := hb'
      simp only [execOp, ho, Instr.buildSlice, Sem.run_bind, run_underlying hu1, Result.andThen_ok, sizeOf, typeInfo, run_program, hi, Sem.run_pure, hi1, Sem.run_ite, hgt, h0, if_false, hz0]
      simp only [List.map_toArray, List.toList_toArray] at kk ⊢
      simp only [kk]
      simp [newRow]
  · refine .inr ⟨w.heap.size, els.length, (F.flat els).toArray, rfl, hh, Nat.le_refl _, by
      have : els.length ≤ els.length * F.sz := Nat.le_mul_of_pos_right _ hs0
      simp only [maxLen]; omega, by simp [F.flat_len], ?_⟩
    rw [← F.flat_len]; simp
def Places (P : Program) (t : TypeId) (pl : List (Nat × Nat)) : Prop := ∃ fs, P.underlying t = some (.struct fs) ∧ ∀ w, (fs.mapM (fun f => do pure (f.offset, ← sizeOf f.type)) : Sem (Array (Nat × Nat))).run P w = .ok pl.toArray w
def BP (σ : Nat → Value) (G : Gh) (L : List Ch) : List (Nat × Operand) → List (Nat × List Value) → Prop
  | [], [] => True
  | (i, x) :: ps, (j, cs) :: vs => i = j ∧ Cl G L (ev σ x) cs ∧ BP σ G L ps vs
  | _, _ => False
def fillC (pl : List (Nat × Nat)) (cs : List Value) : List (Nat × List Value) → Option (List Value)
  | [] => some cs
  | (i, vs) :: r =>
    match pl[i]? with
    | none => none
    | some (off, s) => bif Nat.beq vs.length s && Nat.ble (off + vs.length) cs.length then fillC pl (splice cs off vs) r else none
theorem fillC_run {pl : List (Nat × Nat)} {w : World} (hs : St G L w) : ∀ (ps : List (Nat × Operand)) (vs : List (Nat × List Value)) (cs : List Value) (out : List Value), BP σ G L ps vs → fillC pl cs vs = some out →
    Instr.fill (fun i => pl[i]?) cs.toArray (ps.map fun p => (p.1, ev σ p.2)) = some out.toArray
  | [], [], cs, out, _, h => by simp only [fillC, Option.some.injEq] at h; subst h; rfl
  | (i, x) :: ps, (j, us) :: vs, cs, out, ⟨hj, hc, hb⟩, h => by
    subst hj
    have hc := hc w hs
    have hsz : (ev σ x).cells.size = us.length := by rw [← hc]; simp
    simp only [fillC] at h
    cases hp : pl[i]? with
    | none => simp [hp] at h
    | some q =>
      obtain ⟨off, s⟩ := q
      simp only [hp] at h
      cases hb1 : (Nat.beq us.length s && Nat.ble (off + us.length) cs.length) with
      | false => simp [hb1] at h
      | true =>
        simp only [hb1, cond_true] at h
        simp only [Bool.and_eq_true] at hb1
        have q1 := Nat.eq_of_beq_eq_true hb1.1
        have q2 := Nat.le_of_ble_eq_true hb1.2
        simp only [List.map_cons, Instr.fill, hp, hsz, List.size_toArray]
        rw [if_neg (by simp; omega)]
        have e1 : Array.foldl (fun cs (x : Value × Nat) => cs.setIfInBounds (off + x.2) x.1) cs.toArray (ev σ x).cells.zipIdx = (splice cs off us).toArray := by
          rw [← Array.foldl_toList, Array.toList_zipIdx, hc]
          exact foldl_splice us 0 cs.toArray off
        simp only [e1]
        exact fillC_run hs ps vs _ out hb h
theorem PV.build {pl : List (Nat × Nat)} {z : List Value} {ps : List (Nat × Operand)} {vs : List (Nat × List Value)} {out : List Value} (ho : o.op = .build t ps.toArray) (hz : ZeroT P t z) (hp : Places P t pl) (hb : BP σ G L ps vs) (hf : fillC pl z vs = some out) : PV P o σ G L (.agg out.toArray) := by
  obtain ⟨zv, hz1, hz2⟩ := hz
  obtain ⟨fs, hu, hm⟩ := hp
  intro w hs
  have key := fillC_run hs ps vs z out hb hf
  have hzc : zv.cells = z.toArray := by rw [← hz2]
  have key' : Instr.fill (fun x => (pl.toArray)[x]?) zv.cells (List.map (fun p => (p.1, ev σ p.2)) ps) = some out.toArray := by rw [hzc]; simpa using key
  simp only [execOp, ho, Instr.build, Sem.run_bind, hz1, Result.andThen_ok, run_underlying hu, hm, List.map_toArray, List.toList_toArray]
  rw [key']
  simp
theorem RV1.cell {a b s : Nat} {e : TypeId} {cs : List Value} {L' : List Ch} (hx : σ a = .pointer (some ⟨b, 0, none⟩)) (hA : Aggr P t s) [hX : ExB b L e cs L'] (hl : cs.length = s) : RV1 P σ G L (.cell a t) (.agg cs.toArray) := by
  intro w hs
  have h := loadCells_run (P := P) s b 0 0 #[] cs w hl (fun j c hc => by rw [Nat.zero_add, Nat.zero_add]; exact Rd.blk (G := G) (L' := L') hc w hs)
  simp only [Array.empty_append] at h
  simp [hx, asAddr, loadVar, (hA w).1, (hA w).2, loadCells, h]
end
end Go.Proofs.YtcdigjhhmhkffaaDoor
namespace Go.Proofs.YtcdigjhhmhkffaaDoor
set_option linter.unusedVariables false
set_option linter.unusedSimpArgs false
open Go
theorem Sz2 : ∀ w, (sizeOf 2).run Tryd.prog w = .ok 1 w := fun w => by kernel_rfl
theorem Sc2 : Scal Tryd.prog 2 := fun w => ⟨by kernel_rfl, Sz2 w⟩
theorem Sz9 : ∀ w, (sizeOf 9).run Tryd.prog w = .ok 1 w := fun w => by kernel_rfl
theorem Sc9 : Scal Tryd.prog 9 := fun w => ⟨by kernel_rfl, Sz9 w⟩
theorem El22 : ElemT Tryd.prog 22 35 2 24 [.int .i64 0, .string ByteArray.empty] := elemT_of (by kernel_rfl)
theorem Is22 : IdxS Tryd.prog 22 35 2 := ⟨Tryd.underlying22, by kernel_rfl⟩
theorem Sz35 : ∀ w, (sizeOf 35).run Tryd.prog w = .ok 2 w := fun w => by kernel_rfl
theorem Ag35 : Aggr Tryd.prog 35 2 := fun w => ⟨by kernel_rfl, Sz35 w⟩
theorem Fo35_0 : FOff Tryd.prog 35 0 0 := ⟨0, by kernel_rfl⟩
theorem Fo35_1 : FOff Tryd.prog 35 1 1 := ⟨0, by kernel_rfl⟩
theorem Pl35 : Places Tryd.prog 35 [(0, 1), (1, 1)] := ⟨_, Tryd.underlying35, fun w => by kernel_rfl⟩
theorem Zr35 : ZeroT Tryd.prog 35 [.int .i64 0, .string ByteArray.empty] := ⟨.agg #[.int .i64 0, .string ByteArray.empty], fun w => by kernel_rfl, rfl⟩
theorem El43 : ElemT Tryd.prog 43 5 1 1 [.int .u8 0] := elemT_of (by kernel_rfl)
theorem En4 : Ent Tryd.prog 4 := ent_of Tryd.func4 (by kernel_rfl) (by kernel_rfl)
theorem En5 : Ent Tryd.prog 5 := ent_of Tryd.func5 (by kernel_rfl) (by kernel_rfl)
theorem En6 : Ent Tryd.prog 6 := ent_of Tryd.func6 (by kernel_rfl) (by kernel_rfl)
theorem En7 : Ent Tryd.prog 7 := ent_of Tryd.func7 (by kernel_rfl) (by kernel_rfl)
theorem En8 : Ent Tryd.prog 8 := ent_of Tryd.func8 (by kernel_rfl) (by kernel_rfl)
theorem En9 : Ent Tryd.prog 9 := ent_of Tryd.func9 (by kernel_rfl) (by kernel_rfl)
theorem En10 : Ent Tryd.prog 10 := ent_of Tryd.func10 (by kernel_rfl) (by kernel_rfl)
theorem En11 : Ent Tryd.prog 11 := ent_of Tryd.func11 (by kernel_rfl) (by kernel_rfl)
theorem En12 : Ent Tryd.prog 12 := ent_of Tryd.func12 (by kernel_rfl) (by kernel_rfl)
theorem En13 : Ent Tryd.prog 13 := ent_of Tryd.func13 (by kernel_rfl) (by kernel_rfl)
theorem En14 : Ent Tryd.prog 14 := ent_of Tryd.func14 (by kernel_rfl) (by kernel_rfl)
theorem En15 : Ent Tryd.prog 15 := ent_of Tryd.func15 (by kernel_rfl) (by kernel_rfl)
theorem En16 : Ent Tryd.prog 16 := ent_of Tryd.func16 (by kernel_rfl) (by kernel_rfl)
theorem En18 : Ent Tryd.prog 18 := ent_of Tryd.func18 (by kernel_rfl) (by kernel_rfl)
theorem En19 : Ent Tryd.prog 19 := ent_of Tryd.func19 (by kernel_rfl) (by kernel_rfl)
theorem En23 : Ent Tryd.prog 23 := ent_of Tryd.func23 (by kernel_rfl) (by kernel_rfl)
end Go.Proofs.YtcdigjhhmhkffaaDoor
namespace Go.Proofs.YtcdigjhhmhkffaaDoor
set_option linter.unusedVariables false
set_option linter.unusedSimpArgs false
open Go
set_option maxRecDepth 20000
variable {G : Gh} {L : List Ch} {R : Value → Gh → List Ch → Prop}
def reasonByte (c : UInt8) : Bool := decide (97 ≤ c.toNat) && decide (c.toNat ≤ 122) || decide (48 ≤ c.toNat) && decide (c.toNat ≤ 57) || decide (c.toNat = 45)
def reason (s : ByteArray) : Bool := decide (1 ≤ s.size) && decide (s.size ≤ 24) && decide (∀ i, i < s.size → reasonByte (bt s i) = true)
theorem isReason_s {s : ByteArray} (hs : s.size ≤ 9223372036854775807) (k : R (.bool (reason s)) G L) : CallT Tryd.prog 12 #[.string s] G L R := by
  refine CallT.enter (args := _) Tryd.func12 rfl rfl (by kernel_rfl) rfl ?_
  refine WP.seq ?_
  refine WP.region ?_
  refine RG.pv rfl (PV.mvB (.inr rfl) rfl) ?_
  refine RG.nil ?_
  refine WP.seq ?_
  refine WP.seq ?_
  refine WP.region ?_
  refine RG.pv rfl (PV.mvI (.inr rfl) rfl) ?_
  refine RG.nil ?_
  refine WP.block ?_
  refine WP.loop1 [0] (fun i => i ≤ s.size ∧ ∀ j, j < i → reasonByte (bt s j) = true) (fun i => [(3, vi i)]) (fun i => L) (fun i => s.size - i) 0 ⟨by omega, fun j h => by omega⟩ ⟨rfl, trivial⟩ Cv.p ?_
  rintro i τ ⟨hi, hb⟩
  refine WP.seq ?_
  refine WP.seq ?_
  refine WP.region ?_
  refine RG.pv rfl (PV.mvI (.inl rfl) rfl) ?_
  refine RG.pv rfl (PV.mvS (.inl rfl) rfl) ?_
  refine RG.pv rfl (PV.lenS rfl Tryd.underlying9 rfl) ?_
  refine RG.pv rfl (PV.lss rfl rfl rfl) ?_
  refine RG.nil ?_
  refine WP.cond rfl (fun h1 => ?_) (fun h1 => ?_)
  · have h1 := of_decide_eq_true h1
    refine WP.skip ?_
    refine WP.seq ?_
    refine WP.block ?_
    refine WP.seq ?_
    refine WP.region ?_
    refine RG.pv rfl (PV.mvS (.inl rfl) rfl) ?_
    refine RG.pv rfl (PV.mvI (.inl rfl) rfl) ?_
    refine RG.pv rfl (PV.idxStr rfl Tryd.underlying9 rfl rfl rfl (getBG (by omega))) ?_
    refine RG.pv rfl (PV.lss rfl rfl rfl) ?_
    refine RG.pv rfl (PV.mvB (.inl rfl) rfl) ?_
    refine RG.gs rfl rfl rfl (fun hp => (PV.mvS (.inl rfl) rfl)) ?_
    refine RG.gs rfl rfl rfl (fun hp => (PV.mvI (.inl rfl) rfl)) ?_
    refine RG.gs rfl rfl rfl (fun hp => (PV.idxStr rfl Tryd.underlying9 (gs_t hp) (gs_t hp) rfl (getBG (by first | omega | (simp at hp; omega))))) ?_
    refine RG.gs rfl rfl rfl (fun hp => (PV.gtr rfl (gs_t hp) rfl)) ?_
    refine RG.pv rfl (PV.pickO rfl rfl rfl (fun hq => gs_t (geqF hq))) ?_
    refine RG.pv rfl (PV.mvB (.inl rfl) rfl) ?_
    refine RG.gs rfl rfl rfl (fun hp => (PV.mvS (.inl rfl) rfl)) ?_
    refine RG.gs rfl rfl rfl (fun hp => (PV.mvI (.inl rfl) rfl)) ?_
    refine RG.gs rfl rfl rfl (fun hp => (PV.idxStr rfl Tryd.underlying9 (gs_t hp) (gs_t hp) rfl (getBG (by first | omega | (simp at hp; omega))))) ?_
    refine RG.gs rfl rfl rfl (fun hp => (PV.lss rfl (gs_t hp) rfl)) ?_
    refine RG.gs rfl rfl rfl (fun hp => (PV.mvB (.inl rfl) (gs_t hp))) ?_
    refine RG.gs2 rfl rfl rfl (fun hp => (PV.mvS (.inl rfl) rfl)) ?_
    refine RG.gs2 rfl rfl rfl (fun hp => (PV.mvI (.inl rfl) rfl)) ?_
    refine RG.gs2 rfl rfl rfl (fun hp => (PV.idxStr rfl Tryd.underlying9 (gs_t hp) (gs_t hp) rfl (getBG (by first | omega | (simp at hp; omega))))) ?_
    refine RG.gs2 rfl rfl rfl (fun hp => (PV.gtr rfl (gs_t hp) rfl)) ?_
    refine RG.gs rfl rfl rfl (fun hp => (PV.pickO rfl (gs_t hp) rfl (fun hq => gs_t (gandF hp hq)))) ?_
    refine RG.pv rfl (PV.pickA rfl rfl (fun hq => gs_t (geqT hq)) rfl) ?_
    refine RG.pv rfl (PV.mvB (.inl rfl) rfl) ?_
    refine RG.gs rfl rfl rfl (fun hp => (PV.mvS (.inl rfl) rfl)) ?_
    refine RG.gs rfl rfl rfl (fun hp => (PV.mvI (.inl rfl) rfl)) ?_
    refine RG.gs rfl rfl rfl (fun hp => (PV.idxStr rfl Tryd.underlying9 (gs_t hp) (gs_t hp) rfl (getBG (by first | omega | (simp at hp; omega))))) ?_
    refine RG.gs rfl rfl rfl (fun hp => (PV.neq rfl (gs_t hp) rfl)) ?_
    refine RG.pv rfl (PV.pickA rfl rfl (fun hq => gs_t (geqT hq)) rfl) ?_
    refine RG.nil ?_
    refine WP.cond rfl (fun h2 => ?_) (fun h2 => ?_)
    · have e : reason s = false := by
        simp only [reason, Bool.and_eq_false_iff, decide_eq_false_iff_not]
        refine .inr fun h => ?_
        have h := h i (by omega)
        simp [reasonByte] at h h2; omega
      rw [e] at k
      refine WP.seq ?_
      refine WP.region ?_
      refine RG.pv rfl (PV.mvB (.inr rfl) rfl) ?_
      refine RG.nil ?_
      refine WP.ret ?_
      exact ⟨_, _, ResV.one rfl rfl, Cv.p, k⟩
    · have h3 : reasonByte (bt s i) = true := by
        simp [reasonByte] at h2 ⊢; omega
      have hj : ∀ j, j < i + 1 → reasonByte (bt s j) = true := fun j h => by
        by_cases e : j = i
        · subst e; exact h3
        · exact hb j (by omega)
      refine WP.skip ?_
      refine WP.region ?_
      refine RG.pv rfl (PV.mvI (.inl rfl) rfl) ?_
      refine RG.pv rfl (PV.add rfl rfl rfl (by omega)) ?_
      refine RG.pv rfl (PV.mvI (.inr rfl) rfl) ?_
      refine RG.nil ?_
      exact ⟨rfl, i + 1, ⟨by omega, hj⟩, ⟨rfl, trivial⟩, ⟨rfl, trivial⟩, Cv.p, by omega⟩
  · have h1 := of_decide_eq_false h1
    have e : reason s = (decide (1 ≤ (s.size : Int)) && decide ((s.size : Int) ≤ 24)) := by
      have : ∀ i, i < s.size → reasonByte (bt s i) = true := fun j h => hb j (by omega)
      simp only [reason, decide_eq_true this, Bool.and_true]
      congr 1 <;> (rw [decide_eq_decide]; omega)
    rw [e] at k
    refine WP.exit ?_
    refine WP.seq ?_
    refine WP.region ?_
    refine RG.pv rfl (PV.mvS (.inl rfl) rfl) ?_
    refine RG.pv rfl (PV.lenS rfl Tryd.underlying9 rfl) ?_
    refine RG.pv rfl (PV.geq rfl rfl rfl) ?_
    refine RG.pv rfl (PV.mvB (.inl rfl) rfl) ?_
    refine RG.gs rfl rfl rfl (fun hp => (PV.mvS (.inl rfl) rfl)) ?_
    refine RG.gs rfl rfl rfl (fun hp => (PV.lenS rfl Tryd.underlying9 (gs_t hp))) ?_
    refine RG.gs rfl rfl rfl (fun hp => (PV.leq rfl (gs_t hp) rfl)) ?_
    refine RG.pv rfl (PV.pickA rfl rfl (fun hq => gs_t (geqT hq)) rfl) ?_
    refine RG.pv rfl (PV.mvB (.inr rfl) rfl) ?_
    refine RG.nil ?_
    refine WP.ret ?_
    exact ⟨_, _, ResV.one rfl rfl, Cv.p, k⟩
theorem l22Reason_s {s : ByteArray} (hs : s.size ≤ 9223372036854775807) (k : R (.bool (reason s)) G L) : CallT Tryd.prog 16 #[.string s] G L R := by
  refine CallT.enter (args := _) Tryd.func16 rfl rfl (by kernel_rfl) rfl ?_
  refine WP.seq ?_
  refine WP.region ?_
  refine RG.pv rfl (PV.mvB (.inr rfl) rfl) ?_
  refine RG.nil ?_
  refine WP.seq ?_
  refine WP.seq ?_
  refine WP.region ?_
  refine RG.pv rfl (PV.mvS (.inl rfl) rfl) ?_
  refine RG.pv rfl (PV.lenS rfl Tryd.underlying9 rfl) ?_
  refine RG.pv rfl (PV.lss rfl rfl rfl) ?_
  refine RG.pv rfl (PV.mvB (.inl rfl) rfl) ?_
  refine RG.gs rfl rfl rfl (fun hp => (PV.mvS (.inl rfl) rfl)) ?_
  refine RG.gs rfl rfl rfl (fun hp => (PV.lenS rfl Tryd.underlying9 (gs_t hp))) ?_
  refine RG.gs rfl rfl rfl (fun hp => (PV.gtr rfl (gs_t hp) rfl)) ?_
  refine RG.pv rfl (PV.pickO rfl rfl rfl (fun hq => gs_t (geqF hq))) ?_
  refine RG.nil ?_
  refine WP.cond rfl (fun h1 => ?_) (fun h1 => ?_)
  · have e : reason s = false := by simp [reason] at h1 ⊢; omega
    rw [e] at k
    refine WP.seq ?_
    refine WP.region ?_
    refine RG.pv rfl (PV.mvB (.inr rfl) rfl) ?_
    refine RG.nil ?_
    refine WP.ret ?_
    exact ⟨_, _, ResV.one rfl rfl, Cv.p, k⟩
  · refine WP.skip ?_
    refine WP.seq ?_
    refine WP.seq ?_
    refine WP.region ?_
    refine RG.pv rfl (PV.mvI (.inr rfl) rfl) ?_
    refine RG.nil ?_
    refine WP.block ?_
    refine WP.loop1 [0] (fun i => i ≤ s.size ∧ ∀ j, j < i → reasonByte (bt s j) = true) (fun i => [(3, vi i)]) (fun i => L) (fun i => s.size - i) 0 ⟨by omega, fun j h => by omega⟩ ⟨rfl, trivial⟩ Cv.p ?_
    rintro i τ ⟨hi, hb⟩
    refine WP.seq ?_
    refine WP.seq ?_
    refine WP.region ?_
    refine RG.pv rfl (PV.mvI (.inl rfl) rfl) ?_
    refine RG.pv rfl (PV.mvS (.inl rfl) rfl) ?_
    refine RG.pv rfl (PV.lenS rfl Tryd.underlying9 rfl) ?_
    refine RG.pv rfl (PV.lss rfl rfl rfl) ?_
    refine RG.nil ?_
    refine WP.cond rfl (fun h2 => ?_) (fun h2 => ?_)
    · have h2 := of_decide_eq_true h2
      refine WP.skip ?_
      refine WP.seq ?_
      refine WP.block ?_
      refine WP.seq ?_
      refine WP.region ?_
      refine RG.pv rfl (PV.mvS (.inl rfl) rfl) ?_
      refine RG.pv rfl (PV.mvI (.inl rfl) rfl) ?_
      refine RG.pv rfl (PV.idxStr rfl Tryd.underlying9 rfl rfl rfl (getBG (by omega))) ?_
      refine RG.pv rfl (PV.geq rfl rfl rfl) ?_
      refine RG.pv rfl (PV.mvB (.inl rfl) rfl) ?_
      refine RG.gs rfl rfl rfl (fun hp => (PV.mvS (.inl rfl) rfl)) ?_
      refine RG.gs rfl rfl rfl (fun hp => (PV.mvI (.inl rfl) rfl)) ?_
      refine RG.gs rfl rfl rfl (fun hp => (PV.idxStr rfl Tryd.underlying9 (gs_t hp) (gs_t hp) rfl (getBG (by first | omega | (simp at hp; omega))))) ?_
      refine RG.gs rfl rfl rfl (fun hp => (PV.leq rfl (gs_t hp) rfl)) ?_
      refine RG.pv rfl (PV.pickA rfl rfl (fun hq => gs_t (geqT hq)) rfl) ?_
      refine RG.pv rfl (PV.mvB (.inl rfl) rfl) ?_
      refine RG.gs rfl rfl rfl (fun hp => (PV.mvS (.inl rfl) rfl)) ?_
      refine RG.gs rfl rfl rfl (fun hp => (PV.mvI (.inl rfl) rfl)) ?_
      refine RG.gs rfl rfl rfl (fun hp => (PV.idxStr rfl Tryd.underlying9 (gs_t hp) (gs_t hp) rfl (getBG (by first | omega | (simp at hp; omega))))) ?_
      refine RG.gs rfl rfl rfl (fun hp => (PV.geq rfl (gs_t hp) rfl)) ?_
      refine RG.gs rfl rfl rfl (fun hp => (PV.mvB (.inl rfl) (gs_t hp))) ?_
      refine RG.gs2 rfl rfl rfl (fun hp => (PV.mvS (.inl rfl) rfl)) ?_
      refine RG.gs2 rfl rfl rfl (fun hp => (PV.mvI (.inl rfl) rfl)) ?_
      refine RG.gs2 rfl rfl rfl (fun hp => (PV.idxStr rfl Tryd.underlying9 (gs_t hp) (gs_t hp) rfl (getBG (by first | omega | (simp at hp; omega))))) ?_
      refine RG.gs2 rfl rfl rfl (fun hp => (PV.leq rfl (gs_t hp) rfl)) ?_
      refine RG.gs rfl rfl rfl (fun hp => (PV.pickA rfl (gs_t hp) (fun hq => gs_t (gandT hp hq)) rfl)) ?_
      refine RG.pv rfl (PV.pickO rfl rfl rfl (fun hq => gs_t (geqF hq))) ?_
      refine RG.pv rfl (PV.mvB (.inl rfl) rfl) ?_
      refine RG.gs rfl rfl rfl (fun hp => (PV.mvS (.inl rfl) rfl)) ?_
      refine RG.gs rfl rfl rfl (fun hp => (PV.mvI (.inl rfl) rfl)) ?_
      refine RG.gs rfl rfl rfl (fun hp => (PV.idxStr rfl Tryd.underlying9 (gs_t hp) (gs_t hp) rfl (getBG (by first | omega | (simp at hp; omega))))) ?_
      refine RG.gs rfl rfl rfl (fun hp => (PV.eql rfl (gs_t hp) rfl)) ?_
      refine RG.pv rfl (PV.pickO rfl rfl rfl (fun hq => gs_t (geqF hq))) ?_
      refine RG.pv rfl (PV.not rfl rfl) ?_
      refine RG.nil ?_
      refine WP.cond rfl (fun h3 => ?_) (fun h3 => ?_)
      · have e : reason s = false := by
          simp only [reason, Bool.and_eq_false_iff, decide_eq_false_iff_not]
          refine .inr fun h => ?_
          have h := h i (by omega)
          simp [reasonByte] at h h3; omega
        rw [e] at k
        refine WP.seq ?_
        refine WP.region ?_
        refine RG.pv rfl (PV.mvB (.inr rfl) rfl) ?_
        refine RG.nil ?_
        refine WP.ret ?_
        exact ⟨_, _, ResV.one rfl rfl, Cv.p, k⟩
      · have h4 : reasonByte (bt s i) = true := by
          simp [reasonByte] at h3 ⊢; omega
        have hj : ∀ j, j < i + 1 → reasonByte (bt s j) = true := fun j h => by
          by_cases e : j = i
          · subst e; exact h4
          · exact hb j (by omega)
        refine WP.skip ?_
        refine WP.region ?_
        refine RG.pv rfl (PV.mvI (.inl rfl) rfl) ?_
        refine RG.pv rfl (PV.add rfl rfl rfl (by omega)) ?_
        refine RG.pv rfl (PV.mvI (.inr rfl) rfl) ?_
        refine RG.nil ?_
        exact ⟨rfl, i + 1, ⟨by omega, hj⟩, ⟨rfl, trivial⟩, ⟨rfl, trivial⟩, Cv.p, by omega⟩
    · have h2 := of_decide_eq_false h2
      have e : reason s = true := by
        have : ∀ i, i < s.size → reasonByte (bt s i) = true := fun j h => hb j (by omega)
        simp only [reason, decide_eq_true this, Bool.and_true]
        simp at h1 ⊢; omega
      rw [e] at k
      refine WP.exit ?_
      refine WP.seq ?_
      refine WP.region ?_
      refine RG.pv rfl (PV.mvB (.inr rfl) rfl) ?_
      refine RG.nil ?_
      refine WP.ret ?_
      exact ⟨_, _, ResV.one rfl rfl, Cv.p, k⟩
theorem eqWaiver_s {a b : Waiver} (k : R (.bool (decide (a = b))) G L) : CallT Tryd.prog 13 #[vwaiver a, vwaiver b] G L R := by
  refine CallT.enter (args := _) Tryd.func13 rfl rfl (by kernel_rfl) rfl ?_
  refine WP.seq ?_
  refine WP.region ?_
  refine RG.ot rfl (OT.box (cs := waiverT.enc a) rfl rfl rfl fun b2 => ?_)
  refine RG.ot rfl (OT.box (cs := waiverT.enc b) rfl rfl rfl fun b3 => ?_)
  refine RG.pv rfl (PV.mvB (.inr rfl) rfl) ?_
  refine RG.nil ?_
  refine WP.seq ?_
  refine WP.seq ?_
  refine WP.region ?_
  refine RG.pv rfl (PV.field rfl Fo35_0 rfl) ?_
  refine RG.pv rfl (PV.load1 rfl Sc2 rfl (Rd.blk rfl)) ?_
  refine RG.pv rfl (PV.field rfl Fo35_0 rfl) ?_
  refine RG.pv rfl (PV.load1 rfl Sc2 rfl (Rd.blk rfl)) ?_
  refine RG.pv rfl (PV.neq rfl rfl rfl) ?_
  refine RG.nil ?_
  refine WP.cond rfl (fun h1 => ?_) (fun h1 => ?_)
  · have e : decide (a = b) = false := by
      obtain ⟨a1, a2⟩ := a; obtain ⟨b1, b2⟩ := b
      simp at h1 ⊢; intro e; exact absurd e h1
    rw [e] at k
    refine WP.seq ?_
    refine WP.region ?_
    refine RG.pv rfl (PV.mvB (.inr rfl) rfl) ?_
    refine RG.nil ?_
    refine WP.ret ?_
    exact ⟨_, _, ResV.one rfl rfl, Cv.p, k⟩
  · refine WP.skip ?_
    refine WP.seq ?_
    refine WP.seq ?_
    refine WP.region ?_
    refine RG.pv rfl (PV.field rfl Fo35_1 rfl) ?_
    refine RG.pv rfl (PV.load1 rfl Sc9 rfl (Rd.blk rfl)) ?_
    refine RG.pv rfl (PV.field rfl Fo35_1 rfl) ?_
    refine RG.pv rfl (PV.load1 rfl Sc9 rfl (Rd.blk rfl)) ?_
    refine RG.pv rfl (PV.neqS rfl rfl rfl) ?_
    refine RG.nil ?_
    refine WP.cond rfl (fun h2 => ?_) (fun h2 => ?_)
    · have e : decide (a = b) = false := by
        obtain ⟨a1, a2⟩ := a; obtain ⟨b1, b2⟩ := b
        simp at h2 ⊢; exact fun _ => h2
      rw [e] at k
      refine WP.seq ?_
      refine WP.region ?_
      refine RG.pv rfl (PV.mvB (.inr rfl) rfl) ?_
      refine RG.nil ?_
      refine WP.ret ?_
      exact ⟨_, _, ResV.one rfl rfl, Cv.p, k⟩
    · have e : decide (a = b) = true := by
        obtain ⟨a1, a2⟩ := a; obtain ⟨b1, b2⟩ := b
        simp at h1 h2 ⊢; exact ⟨h1, h2⟩
      rw [e] at k
      refine WP.skip ?_
      refine WP.seq ?_
      refine WP.region ?_
      refine RG.pv rfl (PV.mvB (.inr rfl) rfl) ?_
      refine RG.nil ?_
      refine WP.ret ?_
      exact ⟨_, _, ResV.one rfl rfl, Cv.p, k⟩
theorem eqWaiverS_s {v u : Value} {xs ys : List Waiver} (h1 : Rs G L waiverT v xs) (h2 : Rs G L waiverT u ys) (k : R (.bool (decide (xs = ys))) G L) : CallT Tryd.prog 6 #[v, u] G L R := by
  refine CallT.bd h1 fun hb => ?_
  refine CallT.bd h2 fun hb' => ?_
  refine CallT.enter (args := _) Tryd.func6 rfl rfl (by kernel_rfl) rfl ?_
  refine WP.seq ?_
  refine WP.region ?_
  refine RG.pv rfl (PV.mvB (.inr rfl) rfl) ?_
  refine RG.nil ?_
  refine WP.seq ?_
  refine WP.seq ?_
  refine WP.region ?_
  refine RG.pv rfl (PV.move (v := v) rfl rfl) ?_
  refine RG.pv rfl (PV.len (v := v) rfl Tryd.underlying22 rfl (SlF.r h1)) ?_
  refine RG.pv rfl (PV.move (v := u) rfl rfl) ?_
  refine RG.pv rfl (PV.len (v := u) rfl Tryd.underlying22 rfl (SlF.r h2)) ?_
  refine RG.pv rfl (PV.neq rfl rfl rfl) ?_
  refine RG.nil ?_
  refine WP.cond rfl (fun h3 => ?_) (fun h3 => ?_)
  · have e : decide (xs = ys) = false := by
      rw [decide_eq_false_iff_not]; rintro rfl; simp at h3
    rw [e] at k
    refine WP.seq ?_
    refine WP.region ?_
    refine RG.pv rfl (PV.mvB (.inr rfl) rfl) ?_
    refine RG.nil ?_
    refine WP.ret ?_
    exact ⟨_, _, ResV.one rfl rfl, Cv.p, k⟩
  · have hl : xs.length = ys.length := by simp at h3; omega
    refine WP.skip ?_
    refine WP.seq ?_
    refine WP.seq ?_
    refine WP.region ?_
    refine RG.pv rfl (PV.mvI (.inr rfl) rfl) ?_
    refine RG.nil ?_
    refine WP.block ?_
    refine WP.loop1 [0, 1] (fun i => i ≤ xs.length ∧ ∀ j, j < i → xs[j]? = ys[j]?) (fun i => [(5, vi i)]) (fun i => L) (fun i => xs.length - i) 0 ⟨by omega, fun j h => by omega⟩ ⟨rfl, trivial⟩ Cv.p ?_
    rintro i τ ⟨hi, he⟩
    refine WP.seq ?_
    refine WP.seq ?_
    refine WP.region ?_
    refine RG.pv rfl (PV.mvI (.inl rfl) rfl) ?_
    refine RG.pv rfl (PV.move (v := v) rfl rfl) ?_
    refine RG.pv rfl (PV.len (v := v) rfl Tryd.underlying22 rfl (SlF.r h1)) ?_
    refine RG.pv rfl (PV.lss rfl rfl rfl) ?_
    refine RG.nil ?_
    refine WP.cond rfl (fun h4 => ?_) (fun h4 => ?_)
    · have h4 := of_decide_eq_true h4
      have h5 : i < xs.length := by omega
      refine WP.skip ?_
      refine WP.seq ?_
      refine WP.block ?_
      refine WP.seq ?_
      refine WP.regionQ (by kernel_rfl) (by kernel_rfl) ?_
      refine RQ.pv rfl (PV.move (v := v) rfl rfl) ?_
      refine RQ.pv rfl (PV.mvI (.inl rfl) rfl) ?_
      refine RQ.pv rfl (PV.idxS (v := v) rfl Is22 rfl (SlF.r h1) rfl rfl (by omega)) ?_
      refine RQ.pv rfl (PV.loadE rfl Ag35 rfl rfl (El.r h1 (getG (by omega)))) ?_
      refine RQ.pv rfl (PV.move (v := u) rfl rfl) ?_
      refine RQ.pv rfl (PV.mvI (.inl rfl) rfl) ?_
      refine RQ.pv rfl (PV.idxS (v := u) rfl Is22 rfl (SlF.r h2) rfl rfl (by omega)) ?_
      refine RQ.pv rfl (PV.loadE rfl Ag35 rfl rfl (El.r h2 (getG (by omega)))) ?_
      refine RQ.callF (vs := [_, _]) rfl rfl En13 rfl (eqWaiver_s ⟨rfl, rfl, rfl⟩) ?_
      refine RQ.pv rfl (PV.not rfl rfl) ?_
      refine RQ.nil ?_
      refine WP.cond rfl (fun h6 => ?_) (fun h6 => ?_)
      · have e : decide (xs = ys) = false := by
          rw [decide_eq_false_iff_not]; rintro rfl; simp at h6
        rw [e] at k
        refine WP.seq ?_
        refine WP.region ?_
        refine RG.pv rfl (PV.mvB (.inr rfl) rfl) ?_
        refine RG.nil ?_
        refine WP.ret ?_
        exact ⟨_, _, ResV.one rfl rfl, Cv.p, k⟩
      · have e : gd xs i = gd ys i := by simpa using h6
        have he' : ∀ j, j < i + 1 → xs[j]? = ys[j]? := fun j h => by
          by_cases c : j = i
          · rw [c, getG h5, getG (show i < ys.length by omega), e]
          · exact he j (by omega)
        refine WP.skip ?_
        refine WP.region ?_
        refine RG.pv rfl (PV.mvI (.inl rfl) rfl) ?_
        refine RG.pv rfl (PV.add rfl rfl rfl (by omega)) ?_
        refine RG.pv rfl (PV.mvI (.inr rfl) rfl) ?_
        refine RG.nil ?_
        exact ⟨rfl, i + 1, ⟨by omega, he'⟩, ⟨rfl, trivial⟩, ⟨rfl, rfl, trivial⟩, Cv.p, by omega⟩
    · have h4 := of_decide_eq_false h4
      have e : decide (xs = ys) = true := by
        rw [decide_eq_true_iff]; exact pre_eq he hl (by omega)
      rw [e] at k
      refine WP.exit ?_
      refine WP.seq ?_
      refine WP.region ?_
      refine RG.pv rfl (PV.mvB (.inr rfl) rfl) ?_
      refine RG.nil ?_
      refine WP.ret ?_
      exact ⟨_, _, ResV.one rfl rfl, Cv.p, k⟩
end Go.Proofs.YtcdigjhhmhkffaaDoor
namespace Go.Proofs.YtcdigjhhmhkffaaDoor
set_option linter.unusedVariables false
set_option linter.unusedSimpArgs false
open Go
set_option linter.unusedVariables false
section
variable {P : Program} {n : Nat} {σ : Nat → Value} {G : Gh} {L : List Ch} {o : Oper} {T T' t : TypeId} {x y : Operand} {v u : Value} {K : (Nat → Value) → Gh → List Ch → Prop}
theorem St.ex {c : Ch} {L' : List Ch} {w : World} (h : St G L w) (hx : Ex c L L') : St G (c :: L') w :=
  let ⟨hp, s, rest⟩ := h; ⟨hp, hx.sep s, rest⟩
theorem CallT.exS {α : Type} {F : FT α} {xs : List α} {f : FuncId} {args : Array Value} {R : Value → Gh → List Ch → Prop} {e : TypeId} {L' : List Ch} (v : Value) [hX : ExS v L α e F xs L'] (h : CallT P f args G (osl e F v xs :: L') R) : CallT P f args G L R :=
  CallT.of fun w hs => h.run (hs.ex hX.ex)
end
end Go.Proofs.YtcdigjhhmhkffaaDoor
namespace Go.Proofs.YtcdigjhhmhkffaaDoor
set_option linter.unusedVariables false
set_option linter.unusedSimpArgs false
def has (r : Nat → Bool) (x : Nat) : Bool := decide (x < 80) && r x
def prev (r : Nat → Bool) (x : Nat) : Bool := decide (0 < x) && has r (x - 1)
def tr (r : Nat → Bool) (x : Nat) : Bool := has r x != prev r x
def trans (r : Nat → Bool) : List Nat := (List.range 81).filter (tr r)
def inR (r : Rect) (y x : Nat) : Bool := decide (r.x0 + 40 ≤ x) && decide ((x : Int) < r.x1 + 40) && decide (r.y0 + 40 ≤ y) && decide ((y : Int) < r.y1 + 40)
def bits (rs : List Rect) : List Bool := (List.range 6400).map fun k => rs.any fun r => inR r (k / 80) (k % 80)
end Go.Proofs.YtcdigjhhmhkffaaDoor
namespace Go.Proofs.YtcdigjhhmhkffaaDoor
set_option linter.unusedVariables false
set_option linter.unusedSimpArgs false
open Go
/-- how a region is walked: q: a quiet operation taken first; l: the only operation that may come up; b: either of two -/
inductive Sch where
  | nil
  | q (i : Nat) (r : Sch)
  | l (i : Nat) (r : Sch)
  | b (i : Nat) (r : Sch) (j : Nat) (s : Sch)
  | c (i : Nat) (r : Sch) (j : Nat) (s : Sch) (k : Nat) (t : Sch)
def Sch.len : Sch → Nat
  | .nil => 0
  | .q _ r => r.len + 1
  | .l _ r => r.len + 1
  | .b _ r _ _ => r.len + 1
  | .c _ r _ _ _ _ => r.len + 1
def schB (ops : Array Oper) : Sch → Array Bool → Bool
  | .nil, ls => (Region.ready .any ops ls).isEmpty
  | .q i r, ls => Region.free .any ops ls i && (Region.ready .any ops ls).contains i && schB ops r (ls.setIfInBounds i true)
  | .l i r, ls => (Region.ready .any ops ls == [i]) && schB ops r (ls.setIfInBounds i true)
  | .b i r j s, ls => (Region.ready .any ops ls == [i, j]) && Nat.beq r.len s.len && schB ops r (ls.setIfInBounds i true) && schB ops s (ls.setIfInBounds j true)
  | .c i r j s k t, ls => (Region.ready .any ops ls == [i, j, k]) && Nat.beq r.len s.len && Nat.beq r.len t.len && schB ops r (ls.setIfInBounds i true) && schB ops s (ls.setIfInBounds j true) && schB ops t (ls.setIfInBounds k true)
def NoP (Q : Post) : Prop := ∀ c σ G L, Q (.panic c) σ G L → False
section
variable {P : Program} {n : Nat} {ops : Array Oper} {Q : Post} {σ : Nat → Value} {G G0 : Gh} {L C0 : List Ch} {o oi oj : Oper} {r s : Sch}
@[irreducible] def RH (P : Program) (n : Nat) (ops : Array Oper) (G0 : Gh) (C0 : List Ch) (r : Sch) (Q : Post) (σ : Nat → Value) (G : Gh) (L : List Ch) : Prop :=
  Region.noSelect ops = true → opsOk n ops.toList = true → ∀ ls a w, schB ops r ls = true → Ag n σ a → St G L w → wpAnyH P .any ops (lift n Q) (St G0 C0) r.len ls a w
theorem RH.of (h : Region.noSelect ops = true → opsOk n ops.toList = true → ∀ ls a w, schB ops r ls = true → Ag n σ a → St G L w → wpAnyH P .any ops (lift n Q) (St G0 C0) r.len ls a w) : RH P n ops G0 C0 r Q σ G L := by
  unfold RH; exact h
theorem RH.run (h : RH P n ops G0 C0 r Q σ G L) (h1 : Region.noSelect ops = true) (h2 : opsOk n ops.toList = true) {ls : Array Bool} {a : Act} {w : World} (h3 : schB ops r ls = true) (ha : Ag n σ a) (hs : St G L w) : wpAnyH P .any ops (lift n Q) (St G0 C0) r.len ls a w := by
  unfold RH at h; exact h h1 h2 ls a w h3 ha hs
/-- chunks that are not held in the region: they may be written in it -/
inductive Dr where
  | s (v : Value)
  | b (k : Nat)
class DropC (ds : List Dr) (L : List Ch) (L' : outParam (List Ch)) : Prop where
  mk ::
instance (L : List Ch) : DropC [] L L := ⟨⟩
instance (v : Value) (ds : List Dr) (L M L' : List Ch) (α : Type) (e : TypeId) (F : FT α) (xs : List α) [ExS v L α e F xs M] [DropC ds M L'] : DropC (.s v :: ds) L L' := ⟨⟩
instance (k : Nat) (ds : List Dr) (L M L' : List Ch) (t : TypeId) (cs : List Value) [ExB k L t cs M] [DropC ds M L'] : DropC (.b k :: ds) L L' := ⟨⟩
theorem RH.nil (h : Q .normal σ G L) : RH P n ops G0 C0 .nil Q σ G L :=
  RH.of fun _ _ ls a w hb ha hs => wpAnyH_done (by simpa [schB] using hb) ⟨σ, G, L, ha, hs, h⟩ _
theorem tok_of {i : Nat} (h2 : opsOk n ops.toList = true) (hi : ops[i]? = some oi) : Tok n oi.dst = true := by
  have hm : oi ∈ ops.toList := by
    have := Array.mem_of_getElem? hi
    simpa using this
  exact List.all_eq_true.1 h2 oi hm
theorem RH.step {i : Nat} {v : Value} (hi : ops[i]? = some oi) (hQ : NoP Q) (hg : Gh.le G0 G) (hC : Pick C0 L) (hy : ∀ a, Ag n σ a → YieldsIf P ops (St G0 C0) oi v a) (k : RH P n ops G0 C0 r Q (updo σ oi.dst v) G L) : RH P n ops G0 C0 (.q i r) Q σ G L :=
  RH.of fun h1 h2 ls a w hb ha hs => by
    simp only [schB, Bool.and_eq_true] at hb
    exact wpAnyH_take hi h1 hb.1.1 hb.1.2 (fun c a w ⟨σ', G', L', _, _, hq⟩ => (hQ c σ' G' L' hq).elim) (hy a ha) (hs.weak hC hg) (k.run h1 h2 hb.2 (ha.put (tok_of h2 hi) v) hs)
theorem RH.pv {i : Nat} {v : Value} (hi : ops[i]? = some oi) (hQ : NoP Q) (hg : Gh.le G0 G) (hC : Pick C0 L) (hn : oi.guard = none) (h : PV P oi σ G0 C0 v) (k : RH P n ops G0 C0 r Q (updo σ oi.dst v) G L) : RH P n ops G0 C0 (.q i r) Q σ G L :=
  RH.step hi hQ hg hC (fun a ha => .inl ⟨by simp [Region.wanted, hn], fun w hs => by rw [ha.eval]; exact h w hs⟩) k
theorem RH.gs {i j t : Nat} {want p : Bool} {v : Value} (hi : ops[i]? = some oi) (hQ : NoP Q) (hg : Gh.le G0 G) (hC : Pick C0 L) (hn : oi.guard = some (j, want)) (hj : (ops[j]?).bind (·.dst) = some t) (hb : σ t = .bool p) (h : (p == want) = true → PV P oi σ G0 C0 v)
    (k : RH P n ops G0 C0 r Q (updo σ oi.dst (gv (p == want) v)) G L) : RH P n ops G0 C0 (.q i r) Q σ G L := by
  refine RH.step hi hQ hg hC (fun a ha => ?_) k
  by_cases e : p = want
  · have he : (p == want) = true := by simp [e]
    rw [gs_t he]
    refine .inl ⟨?_, fun w hs => by rw [ha.eval]; exact h he w hs⟩
    simp only [Region.wanted, hn, yielded_ag ha hj hb]; simp [e]
  · have he : (p == want) = false := by simp [e]
    rw [gs_f he]
    refine .inr ⟨?_, rfl⟩
    simp only [Region.wanted, hn, yielded_ag ha hj hb]
    cases p <;> cases want <;> simp_all
theorem RH.gs2 {i j t : Nat} {want b p : Bool} {v : Value} (hi : ops[i]? = some oi) (hQ : NoP Q) (hg : Gh.le G0 G) (hC : Pick C0 L) (hn : oi.guard = some (j, want)) (hj : (ops[j]?).bind (·.dst) = some t) (hb : σ t = gv b (.bool p)) (h : (b && (p == want)) = true → PV P oi σ G0 C0 v)
    (k : RH P n ops G0 C0 r Q (updo σ oi.dst (gv (b && (p == want)) v)) G L) : RH P n ops G0 C0 (.q i r) Q σ G L := by
  cases b with
  | true => rw [gs_t rfl] at hb; exact RH.gs hi hQ hg hC hn hj hb (by simpa using h) (by simpa using k)
  | false =>
    rw [gs_f rfl] at hb
    rw [Bool.false_and, gs_f rfl] at k
    refine RH.step hi hQ hg hC (fun a ha => .inr ⟨?_, rfl⟩) k
    simp only [Region.wanted, hn, yielded_none ha hj hb]; rfl
theorem RH.one {i : Nat} (h1 : Region.noSelect ops = true) (h2 : opsOk n ops.toList = true) (hi : ops[i]? = some oi) (hn : oi.guard = none) {ls : Array Bool} {a : Act} {w : World} (hb : schB ops r (ls.setIfInBounds i true) = true) (ha : Ag n σ a) (hs : St G L w)
    (h : OT P n oi σ G L fun σ' G' L' => Gh.le G0 G' ∧ Pick C0 L' ∧ RH P n ops G0 C0 r Q σ' G' L') :
    wpOp P ops (lift n Q) i (fun a' w' => St G0 C0 w' ∧ wpAnyH P .any ops (lift n Q) (St G0 C0) r.len (ls.setIfInBounds i true) a' w') a w := by
  unfold wpOp
  simp only [hi]
  rw [if_pos (by simp [Region.wanted, hn])]
  exact .inl (Oper.wp_mono (fun a' w' ⟨σ', G', L', h3, h4, h5, h6, h7⟩ => ⟨h4.weak h6 h5, h7.run h1 h2 hb h3 h4⟩) (h (tok_of h2 hi) a w ha hs _))
theorem RH.ot {i : Nat} (hi : ops[i]? = some oi) (hn : oi.guard = none) (h : OT P n oi σ G L fun σ' G' L' => Gh.le G0 G' ∧ Pick C0 L' ∧ RH P n ops G0 C0 r Q σ' G' L') : RH P n ops G0 C0 (.l i r) Q σ G L :=
  RH.of fun h1 h2 ls a w hb ha hs => by
    simp only [schB, Bool.and_eq_true, beq_iff_eq] at hb
    refine wpAnyH_all hb.1 (by simp) fun x hx => ?_
    obtain rfl : x = i := by simpa using hx
    exact RH.one h1 h2 hi hn hb.2 ha hs h
/-- a call of a named function, as an operation -/
theorem OT.callF {f : FuncId} {l : List Operand} {ats : Array TypeId} {vs : List Value} {K : (Nat → Value) → Gh → List Ch → Prop} (ho : o.op = .call { callee := .value (.func f), args := l.toArray, argTypes := ats }) (hE : Ent P f) (ha : cargs σ l = vs)
    (h : CallT P f vs.toArray G L fun v G' L' => K (updo σ o.dst v) G' L') : OT P n o σ G L K :=
  OT.call (first := []) (caps := []) ho rfl hE (by subst ha; simpa using h)
end
end Go.Proofs.YtcdigjhhmhkffaaDoor
namespace Go.Proofs.YtcdigjhhmhkffaaDoor
set_option linter.unusedVariables false
set_option linter.unusedSimpArgs false
open Go Go.ChangeShapes Go.WideShapes Go.ChangeAt Go.RowKit Go.Deep
set_option linter.unusedVariables false
set_option linter.unusedSimpArgs false
/-- the start, without a count of draws -/
def G0 (w : World) : Gh := ⟨wh w, w.os, w.tape, w.output, 0⟩
theorem St.start0 (w : World) : St (G0 w) [] w := ⟨fun _ => none, trivial, Hp.le_refl _, (fun _ _ h => by cases h), fun _ => .inl rfl, rfl, rfl, rfl, Nat.zero_le _⟩
theorem St.below0 {W w' : World} {G : Gh} {L : List Ch} (l : Gh.le (G0 W) G) (h : St G L w') : Below W.heap.size W w' := by
  obtain ⟨hp, s, l1, l2, d, ok⟩ := h
  have ok' := Gh.le_ok l ok
  have up := Hp.le_trans l.1 l1
  have key : ∀ k, k < W.heap.size → w'.heap[k]? = W.heap[k]? := fun k hk => by
    have : (G0 W).f k = some W.heap[k] := by simp [G0, wh, hk]
    have h2 := up k _ this
    simp only [wh] at h2
    rw [h2]; simp [hk]
  refine ⟨ok'.1, ok'.2.1, ok'.2.2.1, ?_, key⟩
  by_cases h0 : W.heap.size = 0
  · omega
  · have := key (W.heap.size - 1) (by omega)
    rw [Array.getElem?_eq_getElem (by omega : W.heap.size - 1 < W.heap.size)] at this
    have := (Array.getElem?_eq_some_iff.1 this).1
    omega
theorem St.more0 {G : Gh} {L : List Ch} {w w' : World} (h : St G L w) (h0 : G.dr = 0) (b : Below w.heap.size w w') : St G L w' := by
  obtain ⟨hp, s, l1, l2, d, o1, o2, o3, o4⟩ := h
  have le : Hp.le (wh w) (wh w') := fun q o hq => by
    simp only [wh] at hq ⊢
    rw [b.block q (Array.getElem?_eq_some_iff.1 hq).1]; exact hq
  exact ⟨hp, s, Hp.le_trans l1 le, Hp.le_trans l2 le, d, b.os.trans o1, b.tape.trans o2, b.output.trans o3, by rw [h0]; exact Nat.zero_le _⟩
theorem CallT.lib {P : Program} {f : FuncId} {args : Array Value} {G : Gh} {L : List Ch} {R : Value → Gh → List Ch → Prop} {Q : Value → Prop} (h0 : G.dr = 0)
    (hC : ∀ w, St G L w → Calls P f args w fun e w' => ∃ v, e = .returned v ∧ Q v ∧ Below w.heap.size w w') (k : ∀ v, Q v → R v G L) : CallT P f args G L R :=
  CallT.of fun w hs => (hC w hs).mono fun e w' => by
    rintro ⟨v, rfl, hq, hb⟩
    exact ⟨v, G, L, rfl, hs.more0 h0 hb, k v hq⟩
theorem below_grow (w : World) (n : Nat) (os : Array Obj) : Below w.heap.size w (Go.Sort.grow (w.drewN n) os) :=
  ⟨rfl, rfl, rfl, by simp [Go.Sort.grow, World.drewN], fun k hk => by simp only [Go.Sort.grow, World.drewN]; rw [Array.getElem?_append, if_pos hk]⟩
theorem below_drew (w : World) (n : Nat) : Below w.heap.size w (w.drewN n) := ⟨rfl, rfl, rfl, Nat.le_refl _, fun _ _ => rfl⟩
/-- what was laid when the law began is laid in each world behind it -/
theorem var_later {P : Program} {W : World} {n : String} {cs : Array Value} (h : W.var? P n = some cs) {L : List Ch} {w : World} (hs : St (G0 W) L w) : w.var? P n = some cs := by
  have hb := hs.below0 (Gh.le_refl _)
  unfold World.var? at h ⊢
  cases hg : P.globalNamed n with
  | none => rw [hg] at h; cases h
  | some g =>
    rw [hg] at h
    simp only [Option.bind_some] at h ⊢
    have hlt : g < W.heap.size := by
      cases hx : W.heap[g]? with
      | none => rw [hx] at h; cases h
      | some o => exact (Array.getElem?_eq_some_iff.1 hx).1
    rw [hb.block g hlt]; exact h
end Go.Proofs.YtcdigjhhmhkffaaDoor
namespace Go.Proofs.YtcdigjhhmhkffaaDoor
set_option linter.unusedVariables false
set_option linter.unusedSimpArgs false
open Go Go.Shelf
def fmtI_ren : Go.Shelf.Ren := ⟨fun | 173 => 23 | 246 => 33 | 283 => 41 | 284 => 42 | 285 => 43 | 286 => 44 | 129 => 47 | 317 => 46 | 318 => 48 | 319 => 49 | 320 => 50 | 337 => 51 | 338 => 52 | n => n, fun | 2 => 2 | 3 => 3 | 9 => 9 | 4 => 4 | 171 => 65 | 0 => 0 | 53 => 51 | 37 => 43 | 5 => 5 | 173 => 68 | 212 => 75 | 51 => 57 | 20 => 20 | 213 => 76 | 46 => 49 | 232 => 80 | 233 => 81 | n => n, fun | 17 => 3 | 18 => 4 | 19 => 5 | n => n⟩
theorem fmtI : Go.Proofs.LaysM.n173 Tryd.prog fmtI_ren := {
  mixed := by kernel_rfl
  f129 := Tryd.func47.trans (congrArg some (by kernel_rfl))
  f173 := Tryd.func23.trans (congrArg some (by kernel_rfl))
  f246 := Tryd.func33.trans (congrArg some (by kernel_rfl))
  f283 := Tryd.func41.trans (congrArg some (by kernel_rfl))
  f284 := Tryd.func42.trans (congrArg some (by kernel_rfl))
  f285 := Tryd.func43.trans (congrArg some (by kernel_rfl))
  f286 := Tryd.func44.trans (congrArg some (by kernel_rfl))
  f317 := Tryd.func46.trans (congrArg some (by kernel_rfl))
  f318 := Tryd.func48.trans (congrArg some (by kernel_rfl))
  f319 := Tryd.func49.trans (congrArg some (by kernel_rfl))
  f320 := Tryd.func50.trans (congrArg some (by kernel_rfl))
  f337 := Tryd.func51.trans (congrArg some (by kernel_rfl))
  f338 := Tryd.func52.trans (congrArg some (by kernel_rfl))
  t0 := Tryd.underlying0
  a0 := Tryd.isAgg0
  z0 := Tryd.sizeOf0
  v0 := Tryd.zeroValue0
  t2 := Tryd.underlying2
  a2 := Tryd.isAgg2
  z2 := Tryd.sizeOf2
  v2 := Tryd.zeroValue2
  t3 := Tryd.underlying3
  a3 := Tryd.isAgg3
  z3 := Tryd.sizeOf3
  v3 := Tryd.zeroValue3
  t4 := Tryd.underlying4
  a4 := Tryd.isAgg4
  z4 := Tryd.sizeOf4
  v4 := Tryd.zeroValue4
  t5 := Tryd.underlying5
  a5 := Tryd.isAgg5
  z5 := Tryd.sizeOf5
  v5 := Tryd.zeroValue5
  t9 := Tryd.underlying9
  a9 := Tryd.isAgg9
  z9 := Tryd.sizeOf9
  v9 := Tryd.zeroValue9
  t20 := Tryd.underlying20
  a20 := Tryd.isAgg20
  z20 := Tryd.sizeOf20
  v20 := Tryd.zeroValue20
  t37 := Tryd.underlying43
  a37 := Tryd.isAgg43
  z37 := Tryd.sizeOf43
  v37 := Tryd.zeroValue43
  t46 := Tryd.underlying49
  a46 := Tryd.isAgg49
  z46 := Tryd.sizeOf49
  v46 := Tryd.zeroValue49
  t51 := Tryd.underlying57
  a51 := Tryd.isAgg57
  z51 := Tryd.sizeOf57
  v51 := Tryd.zeroValue57
  t53 := Tryd.underlying51
  a53 := Tryd.isAgg51
  z53 := Tryd.sizeOf51
  v53 := Tryd.zeroValue51
  t171 := Tryd.underlying65
  a171 := Tryd.isAgg65
  z171 := Tryd.sizeOf65
  v171 := Tryd.zeroValue65
  t173 := Tryd.underlying68
  a173 := Tryd.isAgg68
  z173 := Tryd.sizeOf68
  v173 := Tryd.zeroValue68
  t212 := Tryd.underlying75
  a212 := Tryd.isAgg75
  z212 := Tryd.sizeOf75
  v212 := Tryd.zeroValue75
  t213 := Tryd.underlying76
  a213 := Tryd.isAgg76
  z213 := Tryd.sizeOf76
  t232 := Tryd.underlying80
  a232 := Tryd.isAgg80
  z232 := Tryd.sizeOf80
  v232 := Tryd.zeroValue80
  t233 := Tryd.underlying81
  a233 := Tryd.isAgg81
  z233 := Tryd.sizeOf81
  v233 := Tryd.zeroValue81
  g17 := by kernel_rfl
  g18 := by kernel_rfl
  g19 := by kernel_rfl
  i0 := by kernel_rfl
  i2 := by kernel_rfl
  i3 := by kernel_rfl
  i4 := by kernel_rfl
  i5 := by kernel_rfl
  i9 := by kernel_rfl
  i20 := by kernel_rfl
  i37 := by kernel_rfl
  i46 := by kernel_rfl
  i51 := by kernel_rfl
  i53 := by kernel_rfl
  i171 := by kernel_rfl
  i173 := by kernel_rfl
  i212 := by kernel_rfl
  i232 := by kernel_rfl
  i233 := by kernel_rfl
  m17 := by kernel_rfl
  m18 := by kernel_rfl
  m19 := by kernel_rfl }
def prsI_ren : Go.Shelf.Ren := ⟨fun | 174 => 18 | 247 => 21 | 245 => 22 | 287 => 28 | 279 => 29 | 280 => 30 | 281 => 31 | 282 => 32 | 321 => 36 | 322 => 37 | 316 => 38 | 171 => 40 | 205 => 39 | 243 => 45 | 246 => 33 | 283 => 41 | 284 => 42 | 285 => 43 | 286 => 44 | 129 => 47 | 317 => 46 | 318 => 48 | 319 => 49 | 320 => 50 | 337 => 51 | 338 => 52 | n => n, fun | 9 => 9 | 3 => 3 | 2 => 2 | 75 => 39 | 85 => 40 | 4 => 4 | 167 => 50 | 5 => 5 | 53 => 51 | 175 => 52 | 46 => 49 | 168 => 54 | 37 => 43 | 0 => 0 | 210 => 63 | 21 => 21 | 127 => 70 | 145 => 73 | 143 => 71 | 171 => 65 | 173 => 68 | 212 => 75 | 51 => 57 | 20 => 20 | 213 => 76 | 232 => 80 | 233 => 81 | 80 => 82 | n => n, fun | 15 => 1 | 16 => 2 | 17 => 3 | 18 => 4 | 19 => 5 | n => n⟩
theorem prsI : Go.Proofs.LaysC.n174 Tryd.prog prsI_ren := {
  mixed := by kernel_rfl
  f129 := Tryd.func47.trans (congrArg some (by kernel_rfl))
  f171 := Tryd.func40.trans (congrArg some (by kernel_rfl))
  f174 := Tryd.func18.trans (congrArg some (by kernel_rfl))
  f205 := Tryd.func39.trans (congrArg some (by kernel_rfl))
  f243 := Tryd.func45.trans (congrArg some (by kernel_rfl))
  f245 := Tryd.func22.trans (congrArg some (by kernel_rfl))
  f246 := Tryd.func33.trans (congrArg some (by kernel_rfl))
  f247 := Tryd.func21.trans (congrArg some (by kernel_rfl))
  f279 := Tryd.func29.trans (congrArg some (by kernel_rfl))
  f280 := Tryd.func30.trans (congrArg some (by kernel_rfl))
  f281 := Tryd.func31.trans (congrArg some (by kernel_rfl))
  f282 := Tryd.func32.trans (congrArg some (by kernel_rfl))
  f283 := Tryd.func41.trans (congrArg some (by kernel_rfl))
  f284 := Tryd.func42.trans (congrArg some (by kernel_rfl))
  f285 := Tryd.func43.trans (congrArg some (by kernel_rfl))
  f286 := Tryd.func44.trans (congrArg some (by kernel_rfl))
  f287 := Tryd.func28.trans (congrArg some (by kernel_rfl))
  f316 := Tryd.func38.trans (congrArg some (by kernel_rfl))
  f317 := Tryd.func46.trans (congrArg some (by kernel_rfl))
  f318 := Tryd.func48.trans (congrArg some (by kernel_rfl))
  f319 := Tryd.func49.trans (congrArg some (by kernel_rfl))
  f320 := Tryd.func50.trans (congrArg some (by kernel_rfl))
  f321 := Tryd.func36.trans (congrArg some (by kernel_rfl))
  f322 := Tryd.func37.trans (congrArg some (by kernel_rfl))
  f337 := Tryd.func51.trans (congrArg some (by kernel_rfl))
  f338 := Tryd.func52.trans (congrArg some (by kernel_rfl))
  t0 := Tryd.underlying0
  a0 := Tryd.isAgg0
  z0 := Tryd.sizeOf0
  v0 := Tryd.zeroValue0
  t2 := Tryd.underlying2
  a2 := Tryd.isAgg2
  z2 := Tryd.sizeOf2
  v2 := Tryd.zeroValue2
  t3 := Tryd.underlying3
  a3 := Tryd.isAgg3
  z3 := Tryd.sizeOf3
  v3 := Tryd.zeroValue3
  t4 := Tryd.underlying4
  a4 := Tryd.isAgg4
  z4 := Tryd.sizeOf4
  v4 := Tryd.zeroValue4
  t5 := Tryd.underlying5
  a5 := Tryd.isAgg5
  z5 := Tryd.sizeOf5
  v5 := Tryd.zeroValue5
  t9 := Tryd.underlying9
  a9 := Tryd.isAgg9
  z9 := Tryd.sizeOf9
  v9 := Tryd.zeroValue9
  t20 := Tryd.underlying20
  a20 := Tryd.isAgg20
  z20 := Tryd.sizeOf20
  v20 := Tryd.zeroValue20
  t21 := Tryd.underlying21
  a21 := Tryd.isAgg21
  z21 := Tryd.sizeOf21
  v21 := Tryd.zeroValue21
  t37 := Tryd.underlying43
  a37 := Tryd.isAgg43
  z37 := Tryd.sizeOf43
  v37 := Tryd.zeroValue43
  t46 := Tryd.underlying49
  a46 := Tryd.isAgg49
  z46 := Tryd.sizeOf49
  v46 := Tryd.zeroValue49
  t51 := Tryd.underlying57
  a51 := Tryd.isAgg57
  z51 := Tryd.sizeOf57
  v51 := Tryd.zeroValue57
  t53 := Tryd.underlying51
  a53 := Tryd.isAgg51
  z53 := Tryd.sizeOf51
  v53 := Tryd.zeroValue51
  t75 := Tryd.underlying39
  a75 := Tryd.isAgg39
  z75 := Tryd.sizeOf39
  v75 := Tryd.zeroValue39
  t85 := Tryd.underlying40
  a85 := Tryd.isAgg40
  z85 := Tryd.sizeOf40
  v85 := Tryd.zeroValue40
  t127 := Tryd.underlying70
  a127 := Tryd.isAgg70
  z127 := Tryd.sizeOf70
  v127 := Tryd.zeroValue70
  t143 := Tryd.underlying71
  a143 := Tryd.isAgg71
  z143 := Tryd.sizeOf71
  v143 := Tryd.zeroValue71
  t145 := Tryd.underlying73
  a145 := Tryd.isAgg73
  z145 := Tryd.sizeOf73
  v145 := Tryd.zeroValue73
  t167 := Tryd.underlying50
  a167 := Tryd.isAgg50
  z167 := Tryd.sizeOf50
  v167 := Tryd.zeroValue50
  t168 := Tryd.underlying54
  a168 := Tryd.isAgg54
  z168 := Tryd.sizeOf54
  v168 := Tryd.zeroValue54
  t171 := Tryd.underlying65
  a171 := Tryd.isAgg65
  z171 := Tryd.sizeOf65
  v171 := Tryd.zeroValue65
  t173 := Tryd.underlying68
  a173 := Tryd.isAgg68
  z173 := Tryd.sizeOf68
  v173 := Tryd.zeroValue68
  t175 := Tryd.underlying52
  a175 := Tryd.isAgg52
  z175 := Tryd.sizeOf52
  v175 := Tryd.zeroValue52
  t210 := Tryd.underlying63
  a210 := Tryd.isAgg63
  z210 := Tryd.sizeOf63
  v210 := Tryd.zeroValue63
  t212 := Tryd.underlying75
  a212 := Tryd.isAgg75
  z212 := Tryd.sizeOf75
  v212 := Tryd.zeroValue75
  t213 := Tryd.underlying76
  a213 := Tryd.isAgg76
  z213 := Tryd.sizeOf76
  t232 := Tryd.underlying80
  a232 := Tryd.isAgg80
  z232 := Tryd.sizeOf80
  v232 := Tryd.zeroValue80
  t233 := Tryd.underlying81
  a233 := Tryd.isAgg81
  z233 := Tryd.sizeOf81
  v233 := Tryd.zeroValue81
  g15 := by kernel_rfl
  g16 := by kernel_rfl
  g17 := by kernel_rfl
  g18 := by kernel_rfl
  g19 := by kernel_rfl
  t80 := Tryd.underlying82
  a80 := Tryd.isAgg82
  z80 := Tryd.sizeOf82
  v80 := Tryd.zeroValue82
  i0 := by kernel_rfl
  i2 := by kernel_rfl
  i3 := by kernel_rfl
  i4 := by kernel_rfl
  i5 := by kernel_rfl
  i9 := by kernel_rfl
  i20 := by kernel_rfl
  i21 := by kernel_rfl
  i37 := by kernel_rfl
  i46 := by kernel_rfl
  i51 := by kernel_rfl
  i53 := by kernel_rfl
  i75 := by kernel_rfl
  i80 := by kernel_rfl
  i85 := by kernel_rfl
  i127 := by kernel_rfl
  i143 := by kernel_rfl
  i145 := by kernel_rfl
  i167 := by kernel_rfl
  i168 := by kernel_rfl
  i171 := by kernel_rfl
  i173 := by kernel_rfl
  i175 := by kernel_rfl
  i210 := by kernel_rfl
  i212 := by kernel_rfl
  i232 := by kernel_rfl
  i233 := by kernel_rfl
  m15 := by kernel_rfl
  m16 := by kernel_rfl
  m17 := by kernel_rfl
  m18 := by kernel_rfl
  m19 := by kernel_rfl
  c0 := by kernel_rfl
  c2 := by kernel_rfl
  c3 := by kernel_rfl
  c4 := by kernel_rfl
  c5 := by kernel_rfl
  c9 := by kernel_rfl
  c20 := by kernel_rfl
  c21 := by kernel_rfl
  c37 := by kernel_rfl
  c46 := by kernel_rfl
  c51 := by kernel_rfl
  c53 := by kernel_rfl
  c75 := by kernel_rfl
  c80 := by kernel_rfl
  c85 := by kernel_rfl
  c127 := by kernel_rfl
  c143 := by kernel_rfl
  c145 := by kernel_rfl
  c167 := by kernel_rfl
  c168 := by kernel_rfl
  c171 := by kernel_rfl
  c173 := by kernel_rfl
  c175 := by kernel_rfl
  c210 := by kernel_rfl
  c212 := by kernel_rfl
  c213 := by kernel_rfl
  c232 := by kernel_rfl
  c233 := by kernel_rfl }
def cutS_ren : Go.Shelf.Ren := ⟨fun | 145 => 10 | 220 => 17 | 219 => 20 | 217 => 24 | 225 => 25 | 224 => 26 | 267 => 27 | 266 => 34 | 314 => 35 | n => n, fun | 9 => 9 | 4 => 4 | 59 => 30 | 3 => 3 | 5 => 5 | 46 => 49 | 146 => 58 | 51 => 57 | n => n, fun | 1 => 0 | n => n⟩
theorem cutS : Go.Proofs.Lays.n145 Tryd.prog cutS_ren := {
  mixed := by kernel_rfl
  f145 := Tryd.func10.trans (congrArg some (by kernel_rfl))
  f217 := Tryd.func24.trans (congrArg some (by kernel_rfl))
  f219 := Tryd.func20.trans (congrArg some (by kernel_rfl))
  f220 := Tryd.func17.trans (congrArg some (by kernel_rfl))
  f224 := Tryd.func26.trans (congrArg some (by kernel_rfl))
  f225 := Tryd.func25.trans (congrArg some (by kernel_rfl))
  f266 := Tryd.func34.trans (congrArg some (by kernel_rfl))
  f267 := Tryd.func27.trans (congrArg some (by kernel_rfl))
  f314 := Tryd.func35.trans (congrArg some (by kernel_rfl))
  t3 := Tryd.underlying3
  a3 := Tryd.isAgg3
  z3 := Tryd.sizeOf3
  v3 := Tryd.zeroValue3
  t4 := Tryd.underlying4
  a4 := Tryd.isAgg4
  z4 := Tryd.sizeOf4
  v4 := Tryd.zeroValue4
  t5 := Tryd.underlying5
  a5 := Tryd.isAgg5
  z5 := Tryd.sizeOf5
  v5 := Tryd.zeroValue5
  t9 := Tryd.underlying9
  a9 := Tryd.isAgg9
  z9 := Tryd.sizeOf9
  v9 := Tryd.zeroValue9
  t46 := Tryd.underlying49
  a46 := Tryd.isAgg49
  z46 := Tryd.sizeOf49
  v46 := Tryd.zeroValue49
  t51 := Tryd.underlying57
  a51 := Tryd.isAgg57
  z51 := Tryd.sizeOf57
  v51 := Tryd.zeroValue57
  t59 := Tryd.underlying30
  a59 := Tryd.isAgg30
  z59 := Tryd.sizeOf30
  v59 := Tryd.zeroValue30
  t146 := Tryd.underlying58
  a146 := Tryd.isAgg58
  z146 := Tryd.sizeOf58
  v146 := Tryd.zeroValue58
  g1 := by kernel_rfl }
end Go.Proofs.YtcdigjhhmhkffaaDoor
namespace Go.Proofs.YtcdigjhhmhkffaaDoor
set_option linter.unusedVariables false
set_option linter.unusedSimpArgs false
open Go
set_option linter.unusedVariables false
theorem Cv.cons {c : Ch} {L L' : List Ch} (h : Cv L L') : Cv (c :: L) (c :: L') := fun hp ⟨h1, h2, d, l1, l2, cc, s⟩ => ⟨h1, h2, d, l1, l2, cc, h h2 s⟩
theorem Cv.ex {c : Ch} {L L' : List Ch} (h : Ex c L L') : Cv L (c :: L') := fun _ s => h.sep s
def hu (a b : Hp) : Hp := fun x => if (a x).isSome then a x else b x
theorem hu_l (a b : Hp) : Hp.le a (hu a b) := fun x o h => by simp [hu, h]
theorem hu_r {a b : Hp} (d : Hp.dj a b) : Hp.le b (hu a b) := fun x o h => by
  rcases d x with e | e
  · simp [hu, e, h]
  · rw [e] at h; cases h
theorem hu_le {a b c : Hp} (h : Hp.le a c) (k : Hp.le b c) : Hp.le (hu a b) c := fun x o e => by
  unfold hu at e; split at e
  · exact h x o e
  · exact k x o e
theorem hu_dj {a b c : Hp} (h : Hp.dj a c) (k : Hp.dj b c) : Hp.dj (hu a b) c := fun x => by
  rcases h x with e | e
  · rcases k x with e' | e'
    · left; simp [hu, e, e']
    · exact .inr e'
  · exact .inr e
theorem Hp.dj_symm {a b : Hp} (h : Hp.dj a b) : Hp.dj b a := fun x => (h x).symm
theorem Hp.dj_le {a b a' : Hp} (h : Hp.dj a b) (l : Hp.le a' a) : Hp.dj a' b := fun x => by
  rcases h x with e | e
  · left
    cases h' : a' x with
    | none => rfl
    | some o => rw [l x o h'] at e; cases e
  · exact .inr e
theorem sep_app : ∀ {A B : List Ch} {hp : Hp}, Sep (A ++ B) hp → ∃ a b, Hp.dj a b ∧ Hp.le a hp ∧ Hp.le b hp ∧ Sep A a ∧ Sep B b
  | [], B, hp, h => ⟨fun _ => none, hp, fun _ => .inl rfl, (fun _ _ e => by cases e), Hp.le_refl _, trivial, h⟩
  | c :: A, B, hp, ⟨h1, h2, d, l1, l2, cc, s⟩ => by
    obtain ⟨a, b, d', m1, m2, sa, sb⟩ := sep_app s
    exact ⟨hu h1 a, b, hu_dj (Hp.dj_symm (Hp.dj_le (Hp.dj_symm d) m2)) d', hu_le l1 (Hp.le_trans m1 l2), Hp.le_trans m2 l2, ⟨h1, a, Hp.dj_symm (Hp.dj_le (Hp.dj_symm d) m1), hu_l _ _, hu_r (Hp.dj_symm (Hp.dj_le (Hp.dj_symm d) m1)), cc, sa⟩, sb⟩
theorem app_sep : ∀ {A B : List Ch} {hp a b : Hp}, Hp.dj a b → Hp.le a hp → Hp.le b hp → Sep A a → Sep B b → Sep (A ++ B) hp
  | [], B, hp, a, b, _, _, l, _, s => s.up l
  | c :: A, B, hp, a, b, d, la, lb, ⟨h1, h2, d', m1, m2, cc, sa⟩, sb =>
    ⟨h1, hu h2 b, Hp.dj_symm (hu_dj (Hp.dj_symm d') (Hp.dj_symm (Hp.dj_le d m1))), Hp.le_trans m1 la, hu_le (Hp.le_trans m2 la) lb, cc,
      app_sep (Hp.dj_le d m2) (hu_l _ _) (hu_r (Hp.dj_le d m2)) sa sb⟩
theorem Cv.swap {A B L : List Ch} : Cv (A ++ B ++ L) (B ++ A ++ L) := fun hp s => by
  obtain ⟨ab, c, d, l1, l2, sab, sc⟩ := sep_app s
  obtain ⟨a, b, d', m1, m2, sa, sb⟩ := sep_app sab
  exact app_sep d l1 l2 (app_sep (Hp.dj_symm d') m2 m1 sb sa) sc
def bag (B : List Ch) : Ch := Sep B
def emp : Ch := fun _ => True
theorem Cv.toBag {B L : List Ch} : Cv (B ++ L) (bag B :: L) := fun hp s => sep_app s
theorem Cv.ofBag {B L : List Ch} : Cv (bag B :: L) (B ++ L) := fun hp ⟨a, b, d, l1, l2, sa, sb⟩ => app_sep d l1 l2 sa sb
theorem Cv.bagAdd {c : Ch} {B L : List Ch} : Cv (c :: bag B :: L) (bag (B ++ [c]) :: L) :=
  (Cv.cons Cv.ofBag).trans ((Cv.swap (A := [c]) (B := B)).trans Cv.toBag)
theorem set_split {B : List Ch} {i : Nat} {c : Ch} (h : i < B.length) : B.set i c = B.take i ++ c :: B.drop (i + 1) := List.set_eq_take_append_cons_drop (a := c) ▸ by simp [h]
theorem get_split {B : List Ch} {i : Nat} {c : Ch} (h : B[i]? = some c) : B = B.take i ++ c :: B.drop (i + 1) := by
  obtain ⟨hi, rfl⟩ := List.getElem?_eq_some_iff.1 h
  rw [← List.drop_eq_getElem_cons hi, List.take_append_drop]
theorem Cv.bagTake {B L : List Ch} {c : Ch} (i : Nat) (h : B[i]? = some c) : Cv (bag B :: L) (c :: bag (B.set i emp) :: L) := by
  have hi := (List.getElem?_eq_some_iff.1 h).1
  intro hp ⟨a, b, d, l1, l2, sa, sb⟩
  have e := get_split h
  rw [set_split hi]
  have sa : Sep B a := sa
  rw [e] at sa
  obtain ⟨x, y, d', m1, m2, sx, sy⟩ := sep_app sa
  obtain ⟨h1, h2, d2, n1, n2, cc, s2⟩ := sy
  refine ⟨h1, hu (hu x h2) b, ?_, Hp.le_trans n1 (Hp.le_trans m2 l1), hu_le (hu_le (Hp.le_trans m1 l1) (Hp.le_trans n2 (Hp.le_trans m2 l1))) l2, cc, hu x h2, b, ?_, hu_l _ _, hu_r ?_, ?_, sb⟩
  · exact Hp.dj_symm (hu_dj (hu_dj (Hp.dj_symm (Hp.dj_le (Hp.dj_symm d') n1)) (Hp.dj_symm d2)) (Hp.dj_symm (Hp.dj_le d (Hp.le_trans n1 m2))))
  · exact hu_dj (Hp.dj_le d m1) (Hp.dj_le d (Hp.le_trans n2 m2))
  · exact hu_dj (Hp.dj_le d m1) (Hp.dj_le d (Hp.le_trans n2 m2))
  · have dx : Hp.dj x h2 := Hp.dj_symm (Hp.dj_le (Hp.dj_symm d') n2)
    refine app_sep dx (hu_l _ _) (hu_r dx) sx ?_
    exact ⟨fun _ => none, h2, fun _ => .inl rfl, (fun _ _ e => by cases e), Hp.le_refl _, trivial, s2⟩
section
variable {P : Program} {n : Nat} {Q : Post} {σ : Nat → Value} {G : Gh} {L L' : List Ch} {ops : Array Oper} {rest : List Oper}
theorem WP.cv {c : Code} (h : Cv L L') (k : WP P n c Q σ G L') : WP P n c Q σ G L := WP.of fun hk _ _ ha hs => k.run hk ha (hs.cv h)
theorem RG.cv (h : Cv L L') (k : RG P n ops rest Q σ G L') : RG P n ops rest Q σ G L := RG.of fun hk _ _ ha hs => k.run hk ha (hs.cv h)
theorem CallT.cv {f : FuncId} {args : Array Value} {R : Value → Gh → List Ch → Prop} (h : Cv L L') (k : CallT P f args G L' R) : CallT P f args G L R := CallT.of fun _ hs => k.run (hs.cv h)
theorem Rs.cv {α : Type} {T : FT α} {v : Value} {xs : List α} (c : Cv L L') (h : Rs G L' T v xs) : Rs G L T v xs := fun w hs => h w (hs.cv c)
end
/-- the nil slice is owned by whoever wants it -/
theorem Cv.nilS {α : Type} {e : TypeId} {F : FT α} {L : List Ch} : Cv L (osl e F (.slice none 0 0) [] :: L) := fun hp s => ⟨fun _ => none, hp, fun _ => .inl rfl, (fun _ _ e => by cases e), Hp.le_refl _, .inl ⟨rfl, rfl⟩, s⟩
theorem Cv.nilP {α : Type} {e : TypeId} {F : FT α} {C L : List Ch} [p : PickC C L] : Cv L (osl e F (.slice none 0 0) [] :: C) := (Cv.pick p.pick).trans Cv.nilS
/-- each element's slice reads as its list -/
def RsE {α : Type} (G : Gh) (L : List Ch) (F : FT α) (xs : List (Sl α)) : Prop := ∀ i, i < xs.length → Rs G L F (gd xs i).v (gd xs i).xs
theorem RsE.up {α : Type} {G : Gh} {L L' : List Ch} {F : FT α} {xs : List (Sl α)} (h : RsE G L F xs) [p : PickC L L'] : RsE G L' F xs := fun i hi => (h i hi).up
theorem RsE.cv {α : Type} {G : Gh} {L L' : List Ch} {F : FT α} {xs : List (Sl α)} (c : Cv L L') (h : RsE G L' F xs) : RsE G L F xs := fun i hi => (h i hi).cv c
/-- the lists themselves -/
def er {α : Type} (xs : List (Sl α)) : List (List α) := xs.map Sl.xs
theorem OneL.sl {α : Type} {G : Gh} {L : List Ch} {F : FT α} {xs : List (Sl α)} (h : RsE G L F xs) : OneL G L slT xs := fun w hs a ha => by
  obtain ⟨i, hi, rfl⟩ := List.getElem_of_mem ha
  have := (h i hi w hs).1.one
  rw [gd_eq hi] at this
  simp [slT, allOne, this]
def ownS {α : Type} (e : TypeId) (F : FT α) (s : Sl α) : Ch := osl e F s.v s.xs
/-- the elements' slices are owned -/
abbrev bagS {α : Type} (e : TypeId) (F : FT α) (xs : List (Sl α)) : Ch := bag (xs.map (ownS e F))
theorem map_get {α β : Type} [Inhabited α] {f : α → β} {xs : List α} {i : Nat} (h : i < xs.length) : (xs.map f)[i]? = some (f (gd xs i)) := by simp [gd, h]
class ExBg {α : Type} (xs : List (Sl α)) (L : List Ch) (e : outParam TypeId) (F : outParam (FT α)) (L' : outParam (List Ch)) : Prop where
  ex : Ex (bagS e F xs) L L'
instance (priority := low) {α : Type} (xs : List (Sl α)) (x : Ch) (L : List Ch) (e : TypeId) (F : FT α) (L' : List Ch) [h : ExBg xs L e F L'] : ExBg xs (x :: L) e F (x :: L') := ⟨.tail x h.ex⟩
instance {α : Type} (xs : List (Sl α)) (L : List Ch) (e : TypeId) (F : FT α) : ExBg xs (bagS e F xs :: L) e F L := ⟨.head _ L⟩
theorem Rs.inBag {α : Type} {G : Gh} {L L' : List Ch} {e : TypeId} {F : FT α} {xs : List (Sl α)} (i : Nat) (hi : i < xs.length) [hX : ExBg xs L e F L'] : Rs G L F (gd xs i).v (gd xs i).xs :=
  Rs.cv (L' := osl e F (gd xs i).v (gd xs i).xs :: bag ((xs.map (ownS e F)).set i emp) :: L') ((Cv.ex hX.ex).trans (Cv.bagTake i (map_get hi))) Rs.o
theorem RsE.o {α : Type} {G : Gh} {L L' : List Ch} {e : TypeId} {F : FT α} {xs : List (Sl α)} [hX : ExBg xs L e F L'] : RsE G L F xs := fun i hi => Rs.inBag (L := L) (L' := L') (e := e) (F := F) (xs := xs) i hi
theorem Cv.bagS_add {α : Type} {e : TypeId} {F : FT α} {xs : List (Sl α)} {v : Value} {ys : List α} {L : List Ch} : Cv (osl e F v ys :: bagS e F xs :: L) (bagS e F (xs ++ [⟨v, ys⟩]) :: L) := by
  have h := Cv.bagAdd (c := osl e F v ys) (B := xs.map (ownS e F)) (L := L)
  have e1 : xs.map (ownS e F) ++ [osl e F v ys] = (xs ++ [(⟨v, ys⟩ : Sl α)]).map (ownS e F) := by simp [ownS]
  rw [e1] at h; exact h
theorem Cv.eqS {α : Type} {e : TypeId} {F : FT α} {v : Value} {xs ys : List α} {L : List Ch} (h : xs = ys) : Cv (osl e F v xs :: L) (osl e F v ys :: L) := by subst h; exact Cv.refl _
theorem Cv.grow {α : Type} {e : TypeId} {F : FT α} {u : Value} {us : List α} {ys ys' : List (Sl α)} {L : List Ch} (h : ys' = ys ++ [⟨u, us⟩]) : Cv (osl e F u us :: bagS e F ys :: L) (bagS e F ys' :: L) := by subst h; exact Cv.bagS_add
theorem splice_splice (cs vs us : List Value) (k j : Nat) (h : j + us.length ≤ vs.length) (hk : k + vs.length ≤ cs.length) (hv : ∀ i, i < vs.length → cs[k + i]? = vs[i]?) : splice cs k (splice vs j us) = splice cs (k + j) us := by
  apply List.ext_getElem?
  intro i
  rw [splice_get (splice vs j us) cs k i (by rw [splice_length]; omega), splice_get us cs (k + j) i (by omega), splice_length]
  by_cases h1 : k ≤ i ∧ i < k + vs.length
  · rw [if_pos h1, splice_get us vs j (i - k) h]
    by_cases h2 : j ≤ i - k ∧ i - k < j + us.length
    · rw [if_pos h2, if_pos (by omega)]; congr 1; omega
    · rw [if_neg h2, if_neg (by omega), ← hv (i - k) (by omega)]; congr 1; omega
  · rw [if_neg h1, if_neg (by omega)]
theorem flat_at {α : Type} [Inhabited α] (F : FT α) {xs : List α} {i : Nat} (hi : i < xs.length) : ∀ j, j < (F.enc (gd xs i)).length → (F.flat xs)[i * F.sz + j]? = (F.enc (gd xs i))[j]? := fun j hj => by
  have hc : (F.enc (gd xs i))[j]? = some (F.enc (gd xs i))[j] := List.getElem?_eq_getElem hj
  rw [F.flat_get (getG hi) hc, hc]
theorem set_self {α : Type} [Inhabited α] {xs : List α} {i : Nat} (hi : i < xs.length) : xs = xs.set i (gd xs i) := by
  rw [gd_eq hi, List.set_getElem_self]
section
variable {P : Program} {n : Nat} {σ : Nat → Value} {G : Gh} {L : List Ch} {o : Oper} {t : TypeId} {x y : Operand} {v : Value} {K : (Nat → Value) → Gh → List Ch → Prop}
theorem OT.storeF {α β : Type} [Inhabited α] {F : FT α} {e : TypeId} {xs ys : List α} {a : α} {val : β → Value} {cv : β → List Value} {u : β} {st : β → α → α} {s m i j : Nat} {sl : Value} {L' : List Ch} (ho : o.op = .store t x y) (hS : ∀ w, (sizeOf t).run P w = .ok m w) (hx : ev σ x = .pointer (some ⟨sb sl, so sl + i * s + j, none⟩)) (hs0 : s = F.sz) (hy : ev σ y = val u)
    (hv' : Cl G L (val u) (cv u)) (hl : (cv u).length = m) (h1' : OneC G L (cv u)) [hX : ExS sl L α e F xs L'] (hxs : xs = ys.set i a) (hi : i < ys.length) (hj : Nat.ble (j + m) F.sz = true) (he : ∀ u a, splice (F.enc a) j (cv u) = F.enc (st u a)) (K1 : K (updo σ o.dst undef) G (osl e F sl (ys.set i (st u a)) :: L')) : OT P n o σ G L K := by
  generalize hvs : cv u = vs at hl h1' hv'
  generalize hvu : val u = v at hy hv'
  have hj := Nat.le_of_ble_eq_true hj
  subst hs0 hl
  have hlen : xs.length = ys.length := by rw [hxs]; simp
  have hga : gd xs i = a := by rw [hxs, gd_eq (by simpa using hi)]; simp
  have hle : i * F.sz + F.sz ≤ xs.length * F.sz := by
    have := Nat.mul_le_mul_right F.sz (show i + 1 ≤ xs.length by omega); rwa [Nat.add_mul, Nat.one_mul] at this
  refine OT.ofRunU fun w hs => ?_
  have h1 := allOne_all (h1' w hs)
  have hv := hv' w hs
  have hb : ∃ b cap c, sl = .slice (some ⟨b, 0, none⟩) xs.length cap ∧ wh w b = some (.cells c e (0, 0)) ∧ xs.length ≤ cap ∧ cap ≤ maxLen ∧ c.size = cap * F.sz ∧ c.toList.take (xs.length * F.sz) = F.flat xs := by
    obtain ⟨hp, s, l1, l2, d⟩ := hs
    obtain ⟨g1, g2, _, m1, _, cc, _⟩ := hX.ex.sep s
    rcases cc with ⟨_, h⟩ | ⟨b, cap, c, h1, h2, h3⟩
    · simp [h] at hlen; omega
    · exact ⟨b, cap, c, h1, l2 _ _ (m1 _ _ h2), h3⟩
  obtain ⟨b, cap, c, rfl, hb, h3, h4, h5, h6⟩ := hb
  simp only [sb, so, Nat.zero_add] at hx
  have hsz : v.cells.size = vs.length := by rw [← hv]; simp
  have hcap : xs.length * F.sz ≤ c.size := by rw [h5]; exact Nat.mul_le_mul_right _ h3
  obtain ⟨w', hr, hq, hw'⟩ := storeCells_run (P := P) vs b (i * F.sz + j) 0 c e w h1 hb (by omega)
  have hrun : (storeVar t ⟨b, i * F.sz + j, none⟩ v).run P w = .ok () w' := by
    simp [storeVar, hS w, hsz, hv, hr]
  refine ⟨G, _, w', ?_, hs.set hq hX.ex (b := b) (fun h hh => ?_) hw' (c' := osl e F (.slice (some ⟨b, 0, none⟩) xs.length cap) (ys.set i (st u a))) (fun h hh _ => ?_), K1⟩
  · simp [execOp, ho, hx, hy, Instr.storeAt, Instr.sureAddr, hrun]
  · rcases hh with ⟨_, h⟩ | ⟨b', cap', c', h1, h2, _⟩
    · simp [h] at hlen; omega
    · simp only [Value.slice.injEq, Option.some.injEq, Addr.mk.injEq] at h1
      obtain ⟨⟨rfl, _⟩, _⟩ := h1
      simp [h2]
  · refine .inr ⟨b, cap, (splice c.toList (i * F.sz + j + 0) vs).toArray, by simp [hlen], by simp, by simp; omega, h4, by simp [splice_length, h5], ?_⟩
    have e1 : F.flat (ys.set i (st u a)) = splice (F.flat xs) (i * F.sz) (F.enc (st u a)) := by
      rw [← flat_set F xs i (st u a) (by omega), hxs, List.set_set]
    rw [List.length_set, Nat.add_zero, ← hlen, e1, ← he, hvs, ← hga, splice_splice _ _ _ _ _ (by rw [F.len]; exact hj) (by rw [F.len, F.flat_len]; exact hle) (fun k hk => flat_at F (by omega) k hk), ← h6]
    exact splice_take _ _ _ _ (by omega) (by simpa using hcap)
end
def costL {α : Type} (n : α → Int) : List α → Int
  | [] => 0
  | a :: l => n a + costL n l
def markL {α : Type} (mk : α → Int → α) (n : α → Int) : List α → Int → List α
  | [], _ => []
  | a :: l, k => mk a k :: markL mk n l (k + n a)
theorem markL_len {α : Type} (mk : α → Int → α) (n : α → Int) : ∀ (xs : List α) (k : Int), (markL mk n xs k).length = xs.length
  | [], _ => rfl
  | a :: l, k => by simp [markL, markL_len mk n l]
theorem costL_const {α : Type} (c : Int) : ∀ xs : List α, costL (fun _ => c) xs = c * xs.length
  | [] => by simp [costL]
  | x :: xs => by simp only [costL, costL_const c xs, List.length_cons]; rw [Int.natCast_succ, Int.mul_add]; omega
theorem markL_get {α : Type} [Inhabited α] (mk : α → Int → α) (n : α → Int) : ∀ (xs : List α) (k : Int) (i : Nat), i < xs.length → (markL mk n xs k)[i]? = some (mk (gd xs i) (k + costL n (xs.take i)))
  | [], _, _, h => by simp at h
  | a :: l, k, 0, _ => by simp [markL, costL, gd]
  | a :: l, k, i + 1, h => by
    have := markL_get mk n l (k + n a) i (by simpa using h)
    simp only [markL, List.getElem?_cons_succ, this, List.take_succ_cons, costL]
    have e : gd (a :: l) (i + 1) = gd l i := by simp [gd]
    rw [e, Int.add_assoc]
theorem gd_mark {α : Type} [Inhabited α] {mk : α → Int → α} {n : α → Int} {xs : List α} {k : Int} {i : Nat} (h : i < xs.length) : gd (markL mk n xs k) i = mk (gd xs i) (k + costL n (xs.take i)) := by
  have h1 := markL_get mk n xs k i h
  have h2 := getG (xs := markL mk n xs k) (i := i) (by rw [markL_len]; exact h)
  rw [h1] at h2; exact (Option.some.inj h2).symm
/-- the first i marked, the others as they were -/
def markTo {α : Type} (mk : α → Int → α) (n : α → Int) (xs : List α) (k : Int) (i : Nat) : List α := (markL mk n xs k).take i ++ xs.drop i
theorem markTo_len {α : Type} {mk : α → Int → α} {n : α → Int} {xs : List α} {k : Int} {i : Nat} (h : i ≤ xs.length) : (markTo mk n xs k i).length = xs.length := by
  simp [markTo, markL_len]; omega
theorem markTo_zero {α : Type} {mk : α → Int → α} {n : α → Int} {xs : List α} {k : Int} : markTo mk n xs k 0 = xs := by simp [markTo]
theorem markTo_all {α : Type} {mk : α → Int → α} {n : α → Int} {xs : List α} {k : Int} {i : Nat} (h : xs.length ≤ i) : markTo mk n xs k i = markL mk n xs k := by
  rw [markTo, List.take_of_length_le (by rw [markL_len]; exact h), List.drop_eq_nil_of_le h, List.append_nil]
theorem markTo_set {α : Type} [Inhabited α] {mk : α → Int → α} {n : α → Int} {xs : List α} {k : Int} {i : Nat} (h : i < xs.length) : (markTo mk n xs k i).set i (mk (gd xs i) (k + costL n (xs.take i))) = markTo mk n xs k (i + 1) := by
  apply List.ext_getElem?
  intro j
  rw [List.getElem?_set, markTo_len (by omega)]
  by_cases e : i = j
  · subst e
    rw [if_pos rfl, if_pos h, markTo, List.getElem?_append_left (by simp [markL_len]; omega), List.getElem?_take, if_pos (by omega), markL_get mk n xs k i h]
  · rw [if_neg e]
    simp only [markTo]
    by_cases c : j < i
    · rw [List.getElem?_append_left (by simp [markL_len]; omega), List.getElem?_append_left (by simp [markL_len]; omega), List.getElem?_take, List.getElem?_take, if_pos c, if_pos (by omega)]
    · rw [List.getElem?_append_right (by simp [markL_len]; omega), List.getElem?_append_right (by simp [markL_len]; omega)]
      simp only [List.length_take, markL_len, List.getElem?_drop]
      congr 1; omega
end Go.Proofs.YtcdigjhhmhkffaaDoor
namespace Go.Proofs.YtcdigjhhmhkffaaDoor
set_option linter.unusedVariables false
set_option linter.unusedSimpArgs false
open Go
set_option linter.unusedVariables false
def optAt (σ : Nat → Value) (x : Option Operand) (d j : Nat) : Prop :=
  match x with
  | none => j = d
  | some x => ∃ k, ev σ x = .int k (j : Int)
/-- the function value fv, called with arg, hands back b and leaves the state -/
def CB (P : Program) (G : Gh) (L : List Ch) (fv : Value) (arg : List Value) (b : Value) : Prop :=
  ∃ f first caps, fv = .func (.func f) first.toArray caps.toArray ∧ Ent P f ∧ ∀ (L' : List Ch) (R : Value → Gh → List Ch → Prop), Cv L' L → R b G L' → CallT P f (first ++ arg ++ caps).toArray G L' R
theorem CB.cv {P : Program} {G : Gh} {L L' : List Ch} {fv : Value} {arg : List Value} {b : Value} (h : CB P G L fv arg b) (p : Cv L' L) : CB P G L' fv arg b := by
  obtain ⟨f, first, caps, h1, h2, h3⟩ := h
  exact ⟨f, first, caps, h1, h2, fun M R q => h3 M R (q.trans p)⟩
theorem CB.up {P : Program} {G : Gh} {L L' : List Ch} {fv : Value} {arg : List Value} {b : Value} (h : CB P G L fv arg b) [p : PickC L L'] : CB P G L' fv arg b := h.cv (Cv.pick p.pick)
theorem Rd.cv {G : Gh} {L L' : List Ch} {b k : Nat} {v : Value} (h : Rd G L b k v) (c : Cv L' L) : Rd G L' b k v := fun w hs => h w (hs.cv c)
theorem Rd.up {G : Gh} {L L' : List Ch} {b k : Nat} {v : Value} (h : Rd G L b k v) [p : PickC L L'] : Rd G L' b k v := h.cv (Cv.pick p.pick)
/-- a variable of several cells, read -/
def RdN (G : Gh) (L : List Ch) (b : Nat) (cs : List Value) : Prop := ∀ j c, cs[j]? = some c → Rd G L b (0 + j) c
theorem RdN.cv {G : Gh} {L L' : List Ch} {b : Nat} {cs : List Value} (h : RdN G L b cs) (c : Cv L' L) : RdN G L' b cs := fun j x e => (h j x e).cv c
theorem RdN.up {G : Gh} {L L' : List Ch} {b : Nat} {cs : List Value} (h : RdN G L b cs) [p : PickC L L'] : RdN G L' b cs := h.cv (Cv.pick p.pick)
theorem RdN.blk {G : Gh} {L L' : List Ch} {b : Nat} {e : TypeId} {cs : List Value} [hx : ExB b L e cs L'] : RdN G L b cs := fun j _ h => by rw [Nat.zero_add]; exact Rd.blk (cs := cs) h
section
variable {P : Program} {n : Nat} {ops : Array Oper} {rest : List Oper} {Q : Post} {σ : Nat → Value} {G : Gh} {L : List Ch} {o : Oper} {K : (Nat → Value) → Gh → List Ch → Prop}
variable {l : List Operand} {ats : Array TypeId} {fo : Operand} {fv : Value} {vs : List Value} {b : Value}
theorem PV.slcS {T : TypeId} {x : Operand} {lo hi : Option Operand} {l h : Nat} {s : ByteArray} (ho : o.op = .slice T x lo hi none) (hu : P.underlying T = some .string) (hx : ev σ x = .string s) (hlo : optAt σ lo 0 l) (hhi : optAt σ hi s.size h) (h1 : l ≤ h) (h2 : h ≤ s.size) : PV P o σ G L (.string (s.extract l h)) := by
  intro w hw
  have hbd : (Instr.sliceBounds false s.size s.size (lo.map (ev σ)) (hi.map (ev σ)) none).run P w = .ok (l, h, s.size) w := by
    cases lo with
    | none =>
      have hlo : l = 0 := hlo
      subst hlo
      cases hi with
      | none => have hhi : h = s.size := hhi; subst hhi; simp [Instr.sliceBounds]
      | some y => obtain ⟨k, hy⟩ := hhi; simp [Instr.sliceBounds, Instr.sliceBound, hy, asIntOf, h2]
    | some x' =>
      obtain ⟨k', hx'⟩ := hlo
      cases hi with
      | none => have hhi : h = s.size := hhi; subst hhi; simp [Instr.sliceBounds, Instr.sliceBound, hx', asIntOf, h1]
      | some y => obtain ⟨k, hy⟩ := hhi; simp [Instr.sliceBounds, Instr.sliceBound, hy, hx', asIntOf, h2, h1]
  simp [execOp, ho, hx, Instr.sliceAt, run_underlying hu, Instr.slice, hbd]
end
theorem optAt.n {σ : Nat → Value} {d : Nat} : optAt σ none d d := rfl
theorem optAt.s {σ : Nat → Value} {x : Operand} {d j : Nat} {k : IntKind} {a : Int} (h : ev σ x = .int k a) (e : a = (j : Int)) : optAt σ (some x) d j := ⟨k, by rw [h, e]⟩
/-- what the worlds of a state say may be used -/
theorem CallT.st {P : Program} {f : FuncId} {args : Array Value} {G : Gh} {L : List Ch} {R : Value → Gh → List Ch → Prop} {A : Prop} (h : ∀ w, St G L w → A) (k : A → CallT P f args G L R) : CallT P f args G L R := CallT.of fun w hs => (k (h w hs)).run hs
end Go.Proofs.YtcdigjhhmhkffaaDoor
namespace Go.Proofs.YtcdigjhhmhkffaaDoor
set_option linter.unusedVariables false
set_option linter.unusedSimpArgs false
open Go
set_option maxRecDepth 20000
set_option linter.unusedSimpArgs false
variable {G : Gh} {L : List Ch} {R : Value → Gh → List Ch → Prop}
theorem u8dig {k : Int} (h : 0 ≤ k) : IntKind.wrap .u8 (48 + k % 10) = ((UInt8.ofNat (48 + k.toNat % 10)).toNat : Int) := by
  have h1 : (48 + k % 10) = ((48 + k.toNat % 10 : Nat) : Int) := by omega
  have h2 : 48 + k.toNat % 10 < 256 := by omega
  rw [h1]
  simp only [IntKind.wrap, UInt8.toNat_ofNat']
  simp [IntKind.signed, IntKind.bits]
theorem markText_s {k0 : Int} (hb : k0 ≤ 4611686018427387904) (k : R (.string (mText k0)) G L) : CallT Tryd.prog 14 #[vi k0] G L R := by
  refine CallT.enter (args := _) Tryd.func14 rfl rfl (by kernel_rfl) rfl ?_
  refine WP.seq ?_
  refine WP.region ?_
  refine RG.pv rfl (PV.mvS (.inr rfl) rfl) ?_
  refine RG.nil ?_
  refine WP.seq ?_
  refine WP.seq ?_
  refine WP.region ?_
  refine RG.pv rfl (PV.mvI (.inl rfl) rfl) ?_
  refine RG.pv rfl (PV.leq rfl rfl rfl) ?_
  refine RG.nil ?_
  refine WP.cond rfl (fun h1 => ?_) (fun h1 => ?_)
  · have h1 := of_decide_eq_true h1
    have e : mText k0 = txt [109, 48] := by rw [mText, if_pos h1]
    rw [e] at k
    refine WP.seq ?_
    refine WP.region ?_
    refine RG.pv rfl (PV.mvS (.inr rfl) rfl) ?_
    refine RG.nil ?_
    refine WP.ret ?_
    exact ⟨_, _, ResV.one rfl rfl, Cv.p, k⟩
  · have h1 := of_decide_eq_false h1
    have e : mText k0 = txt [109] ++ mtGo k0.toNat k0.toNat ByteArray.empty := by rw [mText, if_neg h1]
    rw [e] at k
    refine WP.skip ?_
    refine WP.seq ?_
    refine WP.region ?_
    refine RG.pv rfl (PV.mvS (.inr rfl) rfl) ?_
    refine RG.nil ?_
    refine WP.seq ?_
    refine WP.block ?_
    refine WP.loop3 [] (fun (kk : Int) (f : Nat) (out : ByteArray) => 0 ≤ kk ∧ kk ≤ k0 ∧ kk.toNat ≤ f ∧ out.size + kk ≤ k0 ∧ mtGo f kk.toNat out = mtGo k0.toNat k0.toNat ByteArray.empty) (fun (kk : Int) (f : Nat) (out : ByteArray) => [(0, vi kk), (3, .string out)]) (fun (kk : Int) (f : Nat) (out : ByteArray) => L) (fun (kk : Int) (f : Nat) (out : ByteArray) => kk.toNat) k0 k0.toNat ByteArray.empty ⟨by omega, by omega, by omega, by simp, rfl⟩ ⟨rfl, rfl, trivial⟩ Cv.p ?_
    rintro kk f out τ ⟨hk, hkb, hfk, hs, he⟩
    refine WP.seq ?_
    refine WP.seq ?_
    refine WP.region ?_
    refine RG.pv rfl (PV.mvI (.inl rfl) rfl) ?_
    refine RG.pv rfl (PV.gtr rfl rfl rfl) ?_
    refine RG.nil ?_
    refine WP.cond rfl (fun h2 => ?_) (fun h2 => ?_)
    · have h2 := of_decide_eq_true h2
      refine WP.skip ?_
      refine WP.block ?_
      refine WP.seq ?_
      refine WP.region ?_
      refine RG.pv rfl (PV.mvI (.inl rfl) rfl) ?_
      refine RG.pv rfl (PV.rem rfl rfl rfl (by omega) (by omega) (by omega)) ?_
      refine RG.pv rfl (PV.add rfl rfl rfl (by omega)) ?_
      refine RG.pv rfl (PV.conv rfl ⟨_, Tryd.underlying3⟩ Tryd.underlying5 rfl (by first | exact u8dig (by omega) | rfl)) ?_
      refine RG.ot rfl (OT.bslice (F := byteT) (els := [(UInt8.ofNat (48 + kk.toNat % 10))]) rfl El43 rfl (by decide) rfl (by decide) ⟨rfl, (Cl.c rfl), trivial⟩ fun v12 => ?_)
      refine RG.pv rfl (PV.convBS (v := v12) rfl Tryd.underlying43 Tryd.underlying5 Tryd.underlying9 rfl Rs.o) ?_
      refine RG.pv rfl (PV.mvS (.inl rfl) rfl) ?_
      refine RG.pv rfl (PV.addS rfl rfl rfl (by first | omega | (simp [txt_size] <;> omega) | (have : (ByteArray.mk #[109]).size = 1 := rfl; omega))) ?_
      refine RG.pv rfl (PV.mvS (.inr rfl) rfl) ?_
      refine RG.nil ?_
      refine WP.region ?_
      refine RG.pv rfl (PV.mvI (.inl rfl) rfl) ?_
      refine RG.pv rfl (PV.quo rfl rfl rfl (by omega) (by omega) (by omega)) ?_
      refine RG.pv rfl (PV.mvI (.inr rfl) rfl) ?_
      refine RG.nil ?_
      refine ⟨rfl, (kk / 10), (f - 1), (txt [UInt8.ofNat (48 + kk.toNat % 10)] ++ out), ⟨by omega, by omega, by omega, by rw [ByteArray.size_append, txt_size]; simp only [List.length_cons, List.length_nil]; omega, ?_⟩, ⟨rfl, rfl, trivial⟩, trivial, Cv.p, by omega⟩
      obtain ⟨f', rfl⟩ : ∃ f', f = f' + 1 := ⟨f - 1, by omega⟩
      rw [mtGo_step (by omega)] at he
      rw [← he, show (kk / 10).toNat = kk.toNat / 10 by omega]; rfl
    · have h2 := of_decide_eq_false h2
      obtain rfl : kk = 0 := by omega
      rw [show (0 : Int).toNat = 0 from rfl, mtGo_zero] at he
      rw [← he] at k
      refine WP.exit ?_
      refine WP.seq ?_
      refine WP.region ?_
      refine RG.pv rfl (PV.mvS (.inl rfl) rfl) ?_
      refine RG.pv rfl (PV.addS rfl rfl rfl (by first | omega | (simp [txt_size] <;> omega) | (have : (ByteArray.mk #[109]).size = 1 := rfl; omega))) ?_
      refine RG.pv rfl (PV.mvS (.inr rfl) rfl) ?_
      refine RG.nil ?_
      refine WP.ret ?_
      exact ⟨_, _, ResV.one rfl rfl, Cv.p, k⟩
def mkW (_ : Waiver) (k : Int) : Waiver := ⟨k, mText (k + 1)⟩
def nW (_ : Waiver) : Int := 2
theorem nW_cost (xs : List Waiver) : costL nW xs = 2 * xs.length := costL_const 2 xs
theorem mkW_at {xs : List Waiver} {i : Nat} {k0 kk : Int} (h : i < xs.length) (e : kk = k0 + 2 * i) : mkW (gd xs i) (k0 + costL nW (xs.take i)) = ⟨kk, mText (kk + 1)⟩ := by
  rw [mkW, nW_cost, List.length_take, Nat.min_eq_left (by omega), e]
theorem markWaiverS_s {v : Value} {xs : List Waiver} {k0 : Int} (hk : 0 ≤ k0) (hb : k0 + costL nW xs ≤ 4611686018427387904) (k : R (vi (k0 + costL nW xs)) G (osl 35 waiverT v (markL mkW nW xs k0) :: L)) : CallT Tryd.prog 7 #[v, vi k0] G (osl 35 waiverT v xs :: L) R := by
  have hc := nW_cost xs
  refine CallT.cv (Cv.eqS (markTo_zero (mk := mkW) (n := nW) (k := k0)).symm) ?_
  refine CallT.enter (args := _) Tryd.func7 rfl rfl (by kernel_rfl) rfl ?_
  refine WP.seq ?_
  refine WP.region ?_
  refine RG.pv rfl (PV.mvI (.inr rfl) rfl) ?_
  refine RG.nil ?_
  refine WP.seq ?_
  refine WP.seq ?_
  refine WP.region ?_
  refine RG.pv rfl (PV.mvI (.inr rfl) rfl) ?_
  refine RG.nil ?_
  refine WP.block ?_
  refine WP.loop2 [0] (fun (i : Nat) (kk : Int) => i ≤ xs.length ∧ kk = k0 + 2 * i) (fun (i : Nat) (kk : Int) => [(5, vi i), (1, vi kk)]) (fun (i : Nat) (kk : Int) => osl 35 waiverT v (markTo mkW nW xs k0 i) :: L) (fun (i : Nat) (kk : Int) => xs.length - i) 0 k0 ⟨by omega, by omega⟩ ⟨rfl, rfl, trivial⟩ Cv.p ?_
  rintro i kk τ ⟨hi, hkk⟩
  refine WP.seq ?_
  refine WP.seq ?_
  refine WP.region ?_
  refine RG.pv rfl (PV.mvI (.inl rfl) rfl) ?_
  refine RG.pv rfl (PV.move (v := v) rfl rfl) ?_
  refine RG.pv rfl (PV.len (v := v) rfl Tryd.underlying22 rfl SlF.o) ?_
  refine RG.pv rfl (PV.lss rfl rfl rfl) ?_
  refine RG.nil ?_
  have hml := markTo_len (mk := mkW) (n := nW) (k := k0) hi
  refine WP.cond rfl (fun h1 => ?_) (fun h1 => ?_)
  · have h1 := of_decide_eq_true h1
    have h2 : i < xs.length := by omega
    refine WP.skip ?_
    refine WP.seq ?_
    refine WP.block ?_
    refine WP.seq ?_
    refine WP.region ?_
    refine RG.pv rfl (PV.move (v := v) rfl rfl) ?_
    refine RG.pv rfl (PV.mvI (.inl rfl) rfl) ?_
    refine RG.pv rfl (PV.mvI (.inl rfl) rfl) ?_
    refine RG.pv rfl (PV.idxS (v := v) rfl Is22 rfl SlF.o rfl rfl (by omega)) ?_
    refine RG.pv rfl (PV.field rfl Fo35_0 rfl) ?_
    refine RG.ot rfl (OT.storeF (F := waiverT) (val := vi) (cv := fun u => [vi u]) (st := Waiver.s0) rfl Sz2 rfl rfl rfl (Cl.c rfl) rfl (OneC.c rfl) (by exact set_self (by omega)) (by first | omega | (simp; omega)) rfl (fun _ _ => rfl) ?_)
    refine RG.nil ?_
    refine WP.seq ?_
    refine WP.region ?_
    refine RG.pv rfl (PV.mvI (.inl rfl) rfl) ?_
    refine RG.pv rfl (PV.add rfl rfl rfl (by first | omega | (simp only [List.length_set]; omega))) ?_
    refine RG.pv rfl (PV.mvI (.inr rfl) rfl) ?_
    refine RG.nil ?_
    refine WP.seq ?_
    refine WP.region ?_
    refine RG.pv rfl (PV.move (v := v) rfl rfl) ?_
    refine RG.pv rfl (PV.mvI (.inl rfl) rfl) ?_
    refine RG.pv rfl (PV.mvI (.inl rfl) rfl) ?_
    refine RG.callF (vs := [_]) rfl rfl En14 rfl (markText_s (by omega) ?_)
    refine RG.pv rfl (PV.idxS (v := v) rfl Is22 rfl SlF.o rfl rfl (by first | omega | (simp only [List.length_set]; omega))) ?_
    refine RG.pv rfl (PV.field rfl Fo35_1 rfl) ?_
    refine RG.ot rfl (OT.storeF (F := waiverT) (val := Value.string) (cv := fun u => [.string u]) (st := Waiver.s1) rfl Sz9 rfl rfl rfl (Cl.c rfl) rfl (OneC.c rfl) (by rfl) (by first | omega | (simp; omega)) rfl (fun _ _ => rfl) ?_)
    refine RG.nil ?_
    refine WP.region ?_
    refine RG.pv rfl (PV.mvI (.inl rfl) rfl) ?_
    refine RG.pv rfl (PV.add rfl rfl rfl (by first | omega | (simp only [List.length_set]; omega))) ?_
    refine RG.pv rfl (PV.mvI (.inr rfl) rfl) ?_
    refine RG.nil ?_
    refine WP.region ?_
    refine RG.pv rfl (PV.mvI (.inl rfl) rfl) ?_
    refine RG.pv rfl (PV.add rfl rfl rfl (by first | omega | (simp only [List.length_set]; omega))) ?_
    refine RG.pv rfl (PV.mvI (.inr rfl) rfl) ?_
    refine RG.nil ?_
    exact ⟨rfl, i + 1, _, ⟨by omega, by omega⟩, ⟨rfl, rfl, trivial⟩, ⟨rfl, trivial⟩, (Cv.eqS (by rw [← markTo_set h2, mkW_at h2 hkk])), by omega⟩
  · have h1 := of_decide_eq_false h1
    have e : kk = k0 + costL nW xs := by omega
    rw [← e] at k
    refine WP.exit ?_
    refine WP.seq ?_
    refine WP.region ?_
    refine RG.pv rfl (PV.mvI (.inl rfl) rfl) ?_
    refine RG.pv rfl (PV.mvI (.inr rfl) rfl) ?_
    refine RG.nil ?_
    refine WP.ret ?_
    exact ⟨_, _, ResV.one rfl rfl, (Cv.eqS (markTo_all (by omega))), k⟩
theorem heldWaiverS_s {v : Value} {xs : List Waiver} {k0 : Int} (h0 : Rs G L waiverT v (markL mkW nW xs k0)) (hk : 0 ≤ k0) (hb : k0 + costL nW xs ≤ 4611686018427387904) (k : R (vi (k0 + costL nW xs)) G L) : CallT Tryd.prog 8 #[v, vi k0] G L R := by
  have hc := nW_cost xs
  have hml := markL_len mkW nW xs k0
  refine CallT.enter (args := _) Tryd.func8 rfl rfl (by kernel_rfl) rfl ?_
  refine WP.seq ?_
  refine WP.region ?_
  refine RG.pv rfl (PV.mvI (.inr rfl) rfl) ?_
  refine RG.nil ?_
  refine WP.seq ?_
  refine WP.seq ?_
  refine WP.region ?_
  refine RG.pv rfl (PV.mvI (.inr rfl) rfl) ?_
  refine RG.nil ?_
  refine WP.block ?_
  refine WP.loop2 [0] (fun (i : Nat) (kk : Int) => i ≤ xs.length ∧ kk = k0 + 2 * i) (fun (i : Nat) (kk : Int) => [(5, vi i), (1, vi kk)]) (fun (i : Nat) (kk : Int) => L) (fun (i : Nat) (kk : Int) => xs.length - i) 0 k0 ⟨by omega, by omega⟩ ⟨rfl, rfl, trivial⟩ Cv.p ?_
  rintro i kk τ ⟨hi, hkk⟩
  refine WP.seq ?_
  refine WP.seq ?_
  refine WP.region ?_
  refine RG.pv rfl (PV.mvI (.inl rfl) rfl) ?_
  refine RG.pv rfl (PV.move (v := v) rfl rfl) ?_
  refine RG.pv rfl (PV.len (v := v) rfl Tryd.underlying22 rfl (SlF.r h0)) ?_
  refine RG.pv rfl (PV.lss rfl rfl rfl) ?_
  refine RG.nil ?_
  refine WP.cond rfl (fun h1 => ?_) (fun h1 => ?_)
  · have h1 := of_decide_eq_true h1
    have h2 : i < xs.length := by omega
    have hg : gd (markL mkW nW xs k0) i = ⟨kk, mText (kk + 1)⟩ := by rw [gd_mark h2, mkW_at h2 hkk]
    refine WP.skip ?_
    refine WP.seq ?_
    refine WP.block ?_
    refine WP.seq ?_
    refine WP.seq ?_
    refine WP.region ?_
    refine RG.pv rfl (PV.move (v := v) rfl rfl) ?_
    refine RG.pv rfl (PV.mvI (.inl rfl) rfl) ?_
    refine RG.pv rfl (PV.idxS (v := v) rfl Is22 rfl (SlF.r h0) rfl rfl (by omega)) ?_
    refine RG.pv rfl (PV.field rfl Fo35_0 rfl) ?_
    refine RG.pv rfl (PV.loadF rfl Sc2 rfl rfl (El.r h0 (getG (by omega))) rfl) ?_
    refine RG.pv rfl (PV.mvI (.inl rfl) rfl) ?_
    refine RG.pv rfl (PV.neq rfl rfl rfl) ?_
    refine RG.nil ?_
    refine WP.cond rfl (fun h3 => ?_) (fun h3 => ?_)
    · simp [hg] at h3
    · refine WP.skip ?_
      refine WP.seq ?_
      refine WP.region ?_
      refine RG.pv rfl (PV.mvI (.inl rfl) rfl) ?_
      refine RG.pv rfl (PV.add rfl rfl rfl (by omega)) ?_
      refine RG.pv rfl (PV.mvI (.inr rfl) rfl) ?_
      refine RG.nil ?_
      refine WP.seq ?_
      refine WP.seq ?_
      refine WP.regionQ (by kernel_rfl) (by kernel_rfl) ?_
      refine RQ.pv rfl (PV.move (v := v) rfl rfl) ?_
      refine RQ.pv rfl (PV.mvI (.inl rfl) rfl) ?_
      refine RQ.pv rfl (PV.idxS (v := v) rfl Is22 rfl (SlF.r h0) rfl rfl (by omega)) ?_
      refine RQ.pv rfl (PV.field rfl Fo35_1 rfl) ?_
      refine RQ.pv rfl (PV.loadF rfl Sc9 rfl rfl (El.r h0 (getG (by omega))) rfl) ?_
      refine RQ.pv rfl (PV.mvI (.inl rfl) rfl) ?_
      refine RQ.callF (vs := [_]) rfl rfl En14 rfl (markText_s (by omega) ⟨rfl, rfl, rfl⟩) ?_
      refine RQ.pv rfl (PV.neqS rfl rfl rfl) ?_
      refine RQ.nil ?_
      refine WP.cond rfl (fun h4 => ?_) (fun h4 => ?_)
      · simp [hg] at h4
      · refine WP.skip ?_
        refine WP.region ?_
        refine RG.pv rfl (PV.mvI (.inl rfl) rfl) ?_
        refine RG.pv rfl (PV.add rfl rfl rfl (by omega)) ?_
        refine RG.pv rfl (PV.mvI (.inr rfl) rfl) ?_
        refine RG.nil ?_
        refine WP.region ?_
        refine RG.pv rfl (PV.mvI (.inl rfl) rfl) ?_
        refine RG.pv rfl (PV.add rfl rfl rfl (by omega)) ?_
        refine RG.pv rfl (PV.mvI (.inr rfl) rfl) ?_
        refine RG.nil ?_
        exact ⟨rfl, i + 1, _, ⟨by omega, by omega⟩, ⟨rfl, rfl, trivial⟩, ⟨rfl, trivial⟩, Cv.p, by omega⟩
  · have h1 := of_decide_eq_false h1
    have e : kk = k0 + costL nW xs := by omega
    rw [← e] at k
    refine WP.exit ?_
    refine WP.seq ?_
    refine WP.region ?_
    refine RG.pv rfl (PV.mvI (.inl rfl) rfl) ?_
    refine RG.pv rfl (PV.mvI (.inr rfl) rfl) ?_
    refine RG.nil ?_
    refine WP.ret ?_
    exact ⟨_, _, ResV.one rfl rfl, Cv.p, k⟩
end Go.Proofs.YtcdigjhhmhkffaaDoor
namespace Go.Proofs.YtcdigjhhmhkffaaDoor
set_option linter.unusedVariables false
set_option linter.unusedSimpArgs false
open Go
set_option maxRecDepth 20000
set_option linter.unusedSimpArgs false
variable {G : Gh} {L : List Ch} {R : Value → Gh → List Ch → Prop}
structure Ld (G : Gh) : Prop where
  dr : G.dr = 0
  tab : ∀ L w, St G L w → Go.Lib.TabIs Tryd.prog w "internal/strconv.uint64pow10" .u64 Go.Lib.pow10Tab
def dec (n : Int) : ByteArray := txt (Go.Lib.itoa n)
theorem fmt_s {n : Int} (hL : Ld G) (h0 : -9223372036854775808 ≤ n) (h1 : n ≤ 9223372036854775807) (k : R (.string (dec n)) G L) : CallT Tryd.prog 23 #[vi n, vi 10] G L R :=
  CallT.lib hL.dr (Q := fun v => v = .string (dec n)) (fun w hs => (Go.Proofs.Any.strconv_FormatInt_10 fmtI n h0 h1 w (hL.tab L w hs)).mono fun e w' => by
    rintro ⟨rfl, m, os, rfl⟩
    exact ⟨_, rfl, rfl, below_grow w m os⟩) (fun v hv => by subst hv; exact k)
theorem decimal_s {n : Int} (hL : Ld G) (h0 : -9223372036854775808 ≤ n) (h1 : n ≤ 9223372036854775807) (k : R (.string (dec n)) G L) : CallT Tryd.prog 19 #[vi n] G L R := by
  refine CallT.enter (args := _) Tryd.func19 rfl rfl (by kernel_rfl) rfl ?_
  refine WP.seq ?_
  refine WP.region ?_
  refine RG.pv rfl (PV.mvS (.inr rfl) rfl) ?_
  refine RG.nil ?_
  refine WP.seq ?_
  refine WP.region ?_
  refine RG.pv rfl (PV.mvI (.inl rfl) rfl) ?_
  refine RG.callF (vs := [_, _]) rfl rfl En23 rfl (fmt_s hL h0 h1 ?_)
  refine RG.pv rfl (PV.mvS (.inr rfl) rfl) ?_
  refine RG.nil ?_
  refine WP.ret ?_
  exact ⟨_, _, ResV.one rfl rfl, Cv.p, k⟩
theorem txt_of (s : ByteArray) : txt s.data.toList = s := by cases s; simp [txt]
theorem itoa_nn {n : Int} (h : 0 ≤ n) : Go.Lib.itoa n = Go.Lib.decDigits n.toNat := by rw [Go.Lib.itoa, if_neg (by omega)]
end Go.Proofs.YtcdigjhhmhkffaaDoor
namespace Go.Proofs.YtcdigjhhmhkffaaDoor
set_option linter.unusedVariables false
set_option linter.unusedSimpArgs false
open Go
set_option maxRecDepth 20000
set_option linter.unusedSimpArgs false
set_option linter.unusedVariables false
def isDg (c : UInt8) : Bool := decide (48 ≤ c.toNat) && decide (c.toNat ≤ 57)
def valD (a : Nat) (l : List UInt8) : Nat := l.foldl (fun b c => b * 10 + (c.toNat - 48)) a
theorem valD_nil (a : Nat) : valD a [] = a := by simp only [valD, List.foldl_nil]
theorem valD_cons (a : Nat) (c : UInt8) (r : List UInt8) : valD a (c :: r) = valD (a * 10 + (c.toNat - 48)) r := by simp only [valD, List.foldl_cons]
theorem gd_c0 {α : Type} [Inhabited α] (x : α) (l : List α) : gd (x :: l) 0 = x := by simp [gd]
theorem gd_cs {α : Type} [Inhabited α] (x : α) (l : List α) (j : Nat) : gd (x :: l) (j + 1) = gd l j := by simp [gd]
def numC (l : List UInt8) : Bool := decide (1 ≤ l.length) && decide (l.length ≤ 10) && l.all isDg && !(decide (gd l 0 = 48) && decide (1 < l.length))
theorem valD_app (a : Nat) (l r : List UInt8) : valD a (l ++ r) = valD (valD a l) r := by
  induction l generalizing a with
  | nil => rfl
  | cons c l ih => rw [List.cons_append, valD_cons, valD_cons, ih]
theorem valD_ge : ∀ (l : List UInt8) (a : Nat), a ≤ valD a l
  | [], a => Nat.le_refl _
  | c :: r, a => Nat.le_trans (by omega) (valD_ge r (a * 10 + (c.toNat - 48)))
theorem isDg_iff {c : UInt8} : isDg c = true ↔ 48 ≤ c.toNat ∧ c.toNat ≤ 57 := by simp [isDg]
theorem valD_lt : ∀ (l : List UInt8) (a : Nat), l.all isDg = true → valD a l < (a + 1) * 10 ^ l.length
  | [], a, _ => by rw [valD_nil]; simp
  | c :: r, a, h => by
    rw [List.all_cons, Bool.and_eq_true] at h
    have h1 := isDg_iff.1 h.1
    have h2 := valD_lt r (a * 10 + (c.toNat - 48)) h.2
    rw [valD_cons, List.length_cons, Nat.pow_succ]
    have h3 : (a * 10 + (c.toNat - 48) + 1) * 10 ^ r.length ≤ ((a + 1) * 10) * 10 ^ r.length := Nat.mul_le_mul_right _ (by omega)
    have h4 : (a + 1) * 10 * 10 ^ r.length = (a + 1) * (10 ^ r.length * 10) := by rw [Nat.mul_assoc, Nat.mul_comm 10]
    omega
theorem dg_nat {k : Nat} (h : k < 10) : (UInt8.ofNat (48 + k)).toNat = 48 + k := by
  rw [UInt8.toNat_ofNat']; omega
theorem dd_step (u : Nat) (h : 10 ≤ u) : Go.Lib.decDigits u = Go.Lib.decDigits (u / 10) ++ [UInt8.ofNat (48 + u % 10)] := by
  rw [Go.Lib.decDigits, dif_neg (by omega)]
theorem dd_small (u : Nat) (h : u < 10) : Go.Lib.decDigits u = [UInt8.ofNat (48 + u)] := by rw [Go.Lib.decDigits, dif_pos h]
theorem dd_facts : ∀ (m u : Nat), u ≤ m → (Go.Lib.decDigits u).all isDg = true ∧ valD 0 (Go.Lib.decDigits u) = u ∧ (gd (Go.Lib.decDigits u) 0 = 48 → (Go.Lib.decDigits u).length = 1) ∧ 1 ≤ (Go.Lib.decDigits u).length
  | 0, u, h => by
    obtain rfl : u = 0 := by omega
    rw [dd_small 0 (by omega)]
    exact ⟨by decide, by decide, fun _ => rfl, Nat.le_refl _⟩
  | m + 1, u, h => by
    by_cases c : u < 10
    · rw [dd_small u c]
      refine ⟨?_, ?_, fun _ => rfl, Nat.le_refl _⟩
      · rw [List.all_cons, List.all_nil, Bool.and_true, isDg_iff, dg_nat c]; omega
      · rw [valD_cons, valD_nil, dg_nat c]; omega
    · obtain ⟨h1, h2, h3, h4⟩ := dd_facts m (u / 10) (by omega)
      rw [dd_step u (by omega)]
      refine ⟨?_, ?_, fun h0 => ?_, by simp⟩
      · rw [List.all_append, h1, Bool.true_and, List.all_cons, List.all_nil, Bool.and_true, isDg_iff, dg_nat (by omega)]; omega
      · rw [valD_app, h2, valD_cons, valD_nil, dg_nat (by omega)]; omega
      · exfalso
        have h5 : gd (Go.Lib.decDigits (u / 10)) 0 = 48 := by
          rw [← h0]; unfold gd; rw [List.getElem?_append_left (by omega)]
        have h6 := h3 h5
        obtain ⟨x, hx⟩ := List.length_eq_one_iff.1 h6
        rw [hx] at h2 h5
        have h7 : x = 48 := by rw [← h5, gd_c0]
        rw [h7] at h2
        have h8 : valD 0 [48] = 0 := by decide
        omega
theorem numC_digits : ∀ (m : Nat) (l : List UInt8), l.length = m + 1 → l.all isDg = true → (gd l 0 = 48 → l.length = 1) → Go.Lib.decDigits (valD 0 l) = l
  | 0, l, hl, hd, _ => by
    obtain ⟨x, rfl⟩ := List.length_eq_one_iff.1 hl
    rw [List.all_cons, List.all_nil, Bool.and_true] at hd
    have h1 := isDg_iff.1 hd
    rw [valD_cons, valD_nil, dd_small _ (by omega)]
    congr 1
    have h2 : 48 + (0 * 10 + (x.toNat - 48)) = x.toNat := by omega
    rw [h2]; exact UInt8.ofNat_toNat
  | m + 1, l, hl, hd, hz => by
    obtain ⟨ys, a, rfl⟩ : ∃ ys a, l = ys ++ [a] := ⟨l.dropLast, l.getLast (by intro e; rw [e] at hl; cases hl), (List.dropLast_concat_getLast _).symm⟩
    have hy : ys.length = m + 1 := by simpa using hl
    rw [List.all_append, Bool.and_eq_true, List.all_cons, List.all_nil, Bool.and_true] at hd
    have h1 := isDg_iff.1 hd.2
    have hg : gd (ys ++ [a]) 0 = gd ys 0 := by unfold gd; rw [List.getElem?_append_left (by omega)]
    have hne : gd ys 0 ≠ 48 := fun e => by
      have := hz (hg.trans e); rw [hl] at this; omega
    have ih := numC_digits m ys hy hd.1 (fun e => absurd e hne)
    have hpos : 1 ≤ valD 0 ys := by
      cases ys with
      | nil => cases hy
      | cons c r =>
        have h2 := isDg_iff.1 (by rw [List.all_cons, Bool.and_eq_true] at hd; exact hd.1.1)
        have h3 : c.toNat ≠ 48 := fun e => hne (by
          rw [gd_c0]
          exact UInt8.toNat_inj.1 (by rw [e]; rfl))
        have := valD_ge r (0 * 10 + (c.toNat - 48))
        rw [valD_cons]; omega
    rw [valD_app, valD_cons, valD_nil, dd_step _ (by omega), show (valD 0 ys * 10 + (a.toNat - 48)) / 10 = valD 0 ys by omega, ih]
    congr 2
    rw [show (valD 0 ys * 10 + (a.toNat - 48)) % 10 = a.toNat - 48 by omega, show 48 + (a.toNat - 48) = a.toNat by omega]
    exact UInt8.ofNat_toNat
theorem numC_iff {l : List UInt8} : numC l = true ↔ 1 ≤ l.length ∧ l.length ≤ 10 ∧ l.all isDg = true ∧ (gd l 0 = 48 → l.length = 1) := by
  simp only [numC, Bool.and_eq_true, decide_eq_true_eq, Bool.not_eq_true', Bool.and_eq_false_iff, decide_eq_false_iff_not]
  constructor
  · rintro ⟨⟨⟨h1, h2⟩, h3⟩, h4⟩
    refine ⟨h1, h2, h3, fun e => ?_⟩
    rcases h4 with h4 | h4
    · exact absurd e h4
    · omega
  · rintro ⟨h1, h2, h3, h4⟩
    refine ⟨⟨⟨h1, h2⟩, h3⟩, ?_⟩
    by_cases c : gd l 0 = 48
    · right; have := h4 c; omega
    · exact .inl c
theorem numC_val {l : List UInt8} (h : numC l = true) : valD 0 l < 10000000000 ∧ Go.Lib.itoa (valD 0 l : Nat) = l := by
  obtain ⟨h1, h2, h3, h4⟩ := numC_iff.1 h
  have h5 := valD_lt l 0 h3
  have h6 : 10 ^ l.length ≤ 10 ^ 10 := Nat.pow_le_pow_right (by omega) h2
  refine ⟨by omega, ?_⟩
  rw [itoa_nn (by omega), Int.toNat_natCast]
  exact numC_digits (l.length - 1) l (by omega) h3 h4
theorem pum_ok {M : Nat} (hM : 10000000000 ≤ M) : ∀ (l : List UInt8) (a : Nat), l.all isDg = true → valD a l < 10000000000 → Go.Lib.parseUintM M a l = .ok (valD a l)
  | [], a, _, _ => rfl
  | c :: r, a, h, hv => by
    rw [List.all_cons, Bool.and_eq_true] at h
    have h1 := isDg_iff.1 h.1
    have h2 := valD_ge r (a * 10 + (c.toNat - 48))
    rw [valD_cons] at hv
    rw [Go.Lib.parseUintM, if_pos h1, if_neg (by omega), if_neg (by omega), pum_ok hM r _ h.2 hv, valD_cons]
theorem numC_parse {l : List UInt8} (h : numC l = true) : Go.Lib.parseIntB 64 l = .ok ((valD 0 l : Nat) : Int) := by
  obtain ⟨h1, h2, h3, h4⟩ := numC_iff.1 h
  have hv := (numC_val h).1
  cases l with
  | nil => simp at h1
  | cons c r =>
    have hc := isDg_iff.1 (by rw [List.all_cons, Bool.and_eq_true] at h3; exact h3.1)
    have hp : Go.Lib.parseUintB 64 (c :: r) = .ok (valD 0 (c :: r)) := by
      rw [Go.Lib.parseUintB, if_neg (by simp)]
      exact pum_ok (by decide) _ _ h3 hv
    have e1 : (if c.toNat = 43 ∨ c.toNat = 45 then r else c :: r) = c :: r := if_neg (by omega)
    simp only [Go.Lib.parseIntB, e1, hp]
    rw [if_neg (by rintro ⟨-, g⟩; omega), if_neg (by rintro ⟨g, -⟩; omega), if_neg (by omega)]
/-- what readDecimal hands back -/
def rdC (l : List UInt8) : Option Int := if l.length ≤ 19 then (match Go.Lib.parseIntB 64 l with | .ok v => if Go.Lib.itoa v = l then some v else none | _ => none) else none
theorem rdC_num {l : List UInt8} (h : numC l = true) : rdC l = some ((valD 0 l : Nat) : Int) := by
  obtain ⟨h1, h2, h3, h4⟩ := numC_iff.1 h
  rw [rdC, if_pos (by omega), numC_parse h]
  simp only [(numC_val h).2, if_true]
theorem num_rdC {l : List UInt8} {n : Int} (h : rdC l = some n) (h0 : 0 ≤ n) (hl : l.length ≤ 10) : numC l = true := by
  rw [rdC] at h
  split at h
  · split at h
    · split at h
      · next v _ e =>
        have e0 : v = n := by simpa using h
        rw [e0, itoa_nn h0] at e
        obtain ⟨g1, g2, g3, g4⟩ := dd_facts n.toNat n.toNat (Nat.le_refl _)
        rw [e] at g1 g3 g4
        exact numC_iff.2 ⟨g4, hl, g1, g3⟩
      · cases h
    · cases h
  · cases h
/-- the program's test of a number -/
theorem rdC_test (l : List UInt8) : ((rdC l).isSome = true ∧ 0 ≤ (rdC l).getD 0 ∧ l.length ≤ 10) ↔ numC l = true := by
  constructor
  · rintro ⟨h1, h2, h3⟩
    obtain ⟨n, hn⟩ := Option.isSome_iff_exists.1 h1
    rw [hn] at h2
    exact num_rdC hn h2 h3
  · intro h
    rw [rdC_num h]
    exact ⟨rfl, Int.natCast_nonneg _, (numC_iff.1 h).2.1⟩
def bef (c : UInt8) (l : List UInt8) : List UInt8 := l.takeWhile fun x => x != c
def aft (c : UInt8) (l : List UInt8) : List UInt8 := l.drop ((bef c l).length + 1)
theorem bef_le (c : UInt8) (l : List UInt8) : (bef c l).length ≤ l.length := by
  induction l with
  | nil => simp [bef]
  | cons b l ih =>
    rw [bef, List.takeWhile_cons]; split
    · simp only [List.length_cons]; simp only [bef] at ih; omega
    · simp
theorem bef_take (c : UInt8) (l : List UInt8) : l.take (bef c l).length = bef c l := by
  induction l with
  | nil => simp [bef]
  | cons b l ih =>
    rw [bef, List.takeWhile_cons]; split
    · simp only [List.length_cons, List.take_succ_cons]; simp only [bef] at ih; rw [ih]
    · simp
theorem bef_full {c : UInt8} {l : List UInt8} (h : (bef c l).length = l.length) : bef c l = l := by rw [← bef_take, h, List.take_length]
theorem aft_full {c : UInt8} {l : List UInt8} (h : (bef c l).length = l.length) : aft c l = [] := by rw [aft, h]; simp
theorem aft_len {c : UInt8} {l : List UInt8} (h : (bef c l).length < l.length) : (aft c l).length + (bef c l).length + 1 = l.length := by rw [aft, List.length_drop]; omega
theorem bef_cons (c b : UInt8) (l : List UInt8) : bef c (b :: l) = if b = c then [] else b :: bef c l := by
  rw [bef, List.takeWhile_cons]
  by_cases e : b = c
  · simp [e]
  · simp [e, bef]
theorem idx_bef (c : UInt8) : ∀ l : List UInt8, Go.Lib.indexByte l c = if (bef c l).length < l.length then ((bef c l).length : Int) else -1
  | [] => rfl
  | b :: l => by
    have ih := idx_bef c l
    rw [Go.Lib.indexByte, bef_cons]
    by_cases e : b = c
    · subst e; simp
    · have e1 : (b == c) = false := by simpa using e
      rw [if_neg e, e1]
      by_cases hl : (bef c l).length < l.length
      · rw [if_pos hl] at ih
        have e3 : (((bef c l).length : Int) == -1) = false := by rw [beq_eq_false_iff_ne]; omega
        rw [ih, e3, List.length_cons, List.length_cons, if_neg (by decide), if_neg (by decide), if_pos (by omega)]
        omega
      · rw [if_neg hl] at ih
        rw [ih, List.length_cons, List.length_cons, if_neg (by decide), if_pos (by rfl), if_neg (by omega)]
theorem cut_bef (c : UInt8) (l : List UInt8) : Go.Lib.cut l [c] = if (bef c l).length < l.length then (bef c l, aft c l, true) else (l, [], false) := by
  rw [Go.Lib.cut, Go.Lib.index_one, idx_bef]
  by_cases h : (bef c l).length < l.length
  · rw [if_pos h, if_pos h, if_pos (by omega)]
    simp only [Int.toNat_natCast, List.length_singleton, bef_take, aft]
  · rw [if_neg h, if_neg h, if_neg (by omega)]
theorem cut_1 (c : UInt8) (l : List UInt8) : (Go.Lib.cut l [c]).1 = bef c l := by
  rw [cut_bef]; split
  · rfl
  · next h => have := bef_le c l; show l = bef c l; exact (bef_full (by omega)).symm
theorem cut_2 (c : UInt8) (l : List UInt8) : (Go.Lib.cut l [c]).2.1 = aft c l := by
  rw [cut_bef]; split
  · rfl
  · next h => have := bef_le c l; show [] = aft c l; exact (aft_full (by omega)).symm
theorem cut_3 (c : UInt8) (l : List UInt8) : (Go.Lib.cut l [c]).2.2 = decide ((bef c l).length < l.length) := by
  rw [cut_bef]; split
  · next h => rw [decide_eq_true h]
  · next h => rw [decide_eq_false h]
/-- the place of a byte, found one after the other -/
theorem bef_at {c : UInt8} {l : List UInt8} : ∀ {i : Nat}, i ≤ l.length → (∀ j, j < i → gd l j ≠ c) → (i = l.length ∨ gd l i = c) → (bef c l).length = i := by
  induction l with
  | nil => intro i h _ _; simp at h; subst h; rfl
  | cons b l ih =>
    intro i h hj hi
    cases i with
    | zero =>
      rcases hi with hi | hi
      · simp at hi
      · have : b = c := by rw [← hi, gd_c0]
        rw [bef, List.takeWhile_cons, this]; simp
    | succ i =>
      have h0 : b ≠ c := by have := hj 0 (by omega); rwa [gd_c0] at this
      have e2 : (b != c) = true := by simpa using h0
      rw [bef, List.takeWhile_cons, e2]
      simp only [if_true, List.length_cons]
      have := ih (i := i) (by simpa using h) (fun j hj2 => by have := hj (j + 1) (by omega); rwa [gd_cs] at this) (by
        rcases hi with hi | hi
        · left; simpa using hi
        · right; rwa [gd_cs] at hi)
      simp only [bef] at this
      omega
def lineC (out : List Waiver) (t : List UInt8) : Int :=
  if !(numC (bef 32 t) && reason (txt (aft 32 t))) then 4 else if 2147483646 < (valD 0 (bef 32 t) : Int) then 2 else if 0 < out.length ∧ (valD 0 (bef 32 t) : Int) ≤ (gd out (out.length - 1)).sig then 6 else if out.length = 16 then 3 else 0
def lineW (t : List UInt8) : Waiver := ⟨(valD 0 (bef 32 t) : Nat), txt (aft 32 t)⟩
def pwR : Nat → List Waiver → Int → List UInt8 → List Waiver × Int × Int
  | 0, out, _, _ => (out, 0, 0)
  | f + 1, out, line, l => if l = [] then (out, 0, 0) else if (bef 10 l).length < l.length then (if lineC out (bef 10 l) = 0 then pwR f (out ++ [lineW (bef 10 l)]) (line + 1) (aft 10 l) else ([], lineC out (bef 10 l), line)) else ([], 4, line)
theorem pwR_nil {f : Nat} {out : List Waiver} {line : Int} : pwR f out line [] = (out, 0, 0) := by cases f <;> simp [pwR]
theorem pwR_end {f : Nat} {out : List Waiver} {line : Int} {l : List UInt8} (hf : 0 < f) (hl : l ≠ []) (h : ¬ (bef 10 l).length < l.length) : pwR f out line l = ([], 4, line) := by
  obtain ⟨f', rfl⟩ : ∃ f', f = f' + 1 := ⟨f - 1, by omega⟩
  rw [pwR, if_neg hl, if_neg h]
theorem pwR_bad {f : Nat} {out : List Waiver} {line : Int} {l : List UInt8} (hf : 0 < f) (hl : l ≠ []) (h : (bef 10 l).length < l.length) (hc : lineC out (bef 10 l) ≠ 0) : pwR f out line l = ([], lineC out (bef 10 l), line) := by
  obtain ⟨f', rfl⟩ : ∃ f', f = f' + 1 := ⟨f - 1, by omega⟩
  rw [pwR, if_neg hl, if_pos h, if_neg hc]
theorem pwR_next {f : Nat} {out : List Waiver} {line : Int} {l : List UInt8} (hf : 0 < f) (hl : l ≠ []) (h : (bef 10 l).length < l.length) (hc : lineC out (bef 10 l) = 0) : pwR f out line l = pwR (f - 1) (out ++ [lineW (bef 10 l)]) (line + 1) (aft 10 l) := by
  obtain ⟨f', rfl⟩ : ∃ f', f = f' + 1 := ⟨f - 1, by omega⟩
  rw [pwR, if_neg hl, if_pos h, if_pos hc]; rfl
theorem lineC_0 {out : List Waiver} {t : List UInt8} (h : lineC out t = 0) : numC (bef 32 t) = true ∧ reason (txt (aft 32 t)) = true ∧ (valD 0 (bef 32 t) : Int) ≤ 2147483646 ∧ out.length ≠ 16 := by
  unfold lineC at h
  split at h
  · cases h
  · next h1 =>
    split at h
    · cases h
    · next h2 =>
      split at h
      · cases h
      · split at h
        · cases h
        · next h3 =>
          have h4 : numC (bef 32 t) = true ∧ reason (txt (aft 32 t)) = true := by simpa using h1
          exact ⟨h4.1, h4.2, by omega, h3⟩
end Go.Proofs.YtcdigjhhmhkffaaDoor
namespace Go.Proofs.YtcdigjhhmhkffaaDoor
set_option linter.unusedVariables false
set_option linter.unusedSimpArgs false
open Go
theorem WP.loop5 {P : Program} {n : Nat} {Q : Post} {σ : Nat → Value} {G : Gh} {L : List Ch} {c : Code} (keep : List Nat) {A B D E F : Type} (J : A → B → D → E → F → Prop) (S : A → B → D → E → F → List (Nat × Value)) (C : A → B → D → E → F → List Ch) (μ : A → B → D → E → F → Nat) (a0 : A) (b0 : B) (d0 : D) (e0 : E) (f0 : F) (j0 : J a0 b0 d0 e0 f0) (h0 : HasV σ (S a0 b0 d0 e0 f0)) (p0 : Cv L (C a0 b0 d0 e0 f0))
    (round : ∀ a b d e f τ, J a b d e f → WP P n c (thenP (fun σ' G' L' => G' = G ∧ ∃ a' b' d' e' f', J a' b' d' e' f' ∧ HasV σ' (S a' b' d' e' f') ∧ Keeps σ' σ keep ∧ Cv L' (C a' b' d' e' f') ∧ μ a' b' d' e' f' < μ a b d e f) Q) (upds (updk τ σ keep) (S a b d e f)) G (C a b d e f)) : WP P n (.loop c) Q σ G L :=
  WP.loop0 keep (A := A × B × D × E × F) (fun x => J x.1 x.2.1 x.2.2.1 x.2.2.2.1 x.2.2.2.2) (fun x => S x.1 x.2.1 x.2.2.1 x.2.2.2.1 x.2.2.2.2) (fun x => C x.1 x.2.1 x.2.2.1 x.2.2.2.1 x.2.2.2.2) (fun x => μ x.1 x.2.1 x.2.2.1 x.2.2.2.1 x.2.2.2.2) (a0, b0, d0, e0, f0) j0 h0 p0 fun x τ j =>
    WP.mono (round x.1 x.2.1 x.2.2.1 x.2.2.2.1 x.2.2.2.2 τ j) fun e σ G L hq => by
      cases e with
      | normal => obtain ⟨e, a', b', d', e', f', h⟩ := hq; exact ⟨e, (a', b', d', e', f'), h⟩
      | _ => exact hq
end Go.Proofs.YtcdigjhhmhkffaaDoor
namespace Go.Proofs.YtcdigjhhmhkffaaDoor
set_option linter.unusedVariables false
set_option linter.unusedSimpArgs false
open Go Go.RowKit
set_option maxRecDepth 20000
set_option linter.unusedSimpArgs false
variable {G : Gh} {L : List Ch} {R : Value → Gh → List Ch → Prop}
structure Lp (G : Gh) : Prop extends Ld G where
  mx : ∀ L w, St G L w → ∃ m, w.cell? ⟨cutS_ren.g 1, 0, none⟩ = some (.int .i64 m)
  es : ∀ L w, St G L w → ∃ tp p, w.var? Tryd.prog "strconv.ErrSyntax" = some #[.iface tp p]
  er : ∀ L w, St G L w → ∃ tp p, w.var? Tryd.prog "strconv.ErrRange" = some #[.iface tp p]
theorem txt_list (l : List UInt8) : (txt l).data.toList = l := by simp [txt]
theorem cut_s {s : List UInt8} {c : UInt8} (hL : Lp G) (hs : s.length ≤ 1048576) (k : R (.tuple #[.string (txt (bef c s)), .string (txt (aft c s)), .bool (decide ((bef c s).length < s.length))]) G L) : CallT Tryd.prog 10 #[.string (txt s), .string (ByteArray.mk #[c])] G L R :=
  CallT.lib hL.dr (Q := fun v => v = .tuple #[.string (txt (bef c s)), .string (txt (aft c s)), .bool (decide ((bef c s).length < s.length))]) (fun w hs2 => by
    obtain ⟨m, hm⟩ := hL.mx L w hs2
    refine (Go.Proofs.Any.strings_Cut cutS (txt s) (ByteArray.mk #[c]) m w (by rw [txt_size]; omega) hm).mono ?_
    rintro e w' ⟨rfl, n, rfl⟩
    refine ⟨_, rfl, ?_, below_drew w n⟩
    have e1 : (txt s).data.toList = s := txt_list s
    have e2 : (ByteArray.mk #[c]).data.toList = [c] := rfl
    rw [e1, e2, cut_1, cut_2, cut_3]; rfl) (fun v hv => by subst hv; exact k)
theorem parse_s {s : List UInt8} (hL : Lp G) (hs : s.length ≤ 19) (k0 : ∀ v, Go.Lib.parseIntB 64 s = .ok v → R (.tuple #[vi v, .nilIface]) G L)
    (k1 : (∀ v, Go.Lib.parseIntB 64 s ≠ .ok v) → ∀ n t p, -9223372036854775808 ≤ n → n ≤ 9223372036854775807 → R (.tuple #[vi n, .iface t p]) G L) : CallT Tryd.prog 18 #[.string (txt s), vi 10, vi 64] G L R := by
  have e1 : (txt s).data.toList = s := txt_list s
  have hz : (txt s).size = s.length := txt_size s
  cases hp : Go.Lib.parseIntB 64 s with
  | ok v =>
    refine CallT.lib hL.dr (Q := fun u => u = .tuple #[vi v, .nilIface]) (fun w hs2 => ?_) (fun u hu => by subst hu; exact k0 v hp)
    refine (Go.Proofs.Any.strconv_ParseInt_10_at64_ok prsI (txt s) (by omega) v (by rw [e1]; exact hp) w).mono ?_
    rintro e w' ⟨rfl, hw⟩
    refine ⟨_, rfl, rfl, ?_⟩
    rcases hw with rfl | ⟨t, rfl⟩
    · exact Below.refl _ _
    · exact Go.Lib.bytesWorld_below _ _ _
  | range =>
    refine CallT.lib hL.dr (Q := fun u => ∃ n t p, u = .tuple #[vi n, .iface t p] ∧ -9223372036854775808 ≤ n ∧ n ≤ 9223372036854775807) (fun w hs2 => ?_) (fun u ⟨n, t, p, hu, b1, b2⟩ => by subst hu; exact k1 (fun v h => by rw [hp] at h; cases h) n t p b1 b2)
    obtain ⟨tp, p, hv⟩ := hL.er L w hs2
    refine (Go.Proofs.Any.strconv_ParseInt_10_at64_range_var prsI (txt s) (by omega) (by rw [e1]; exact hp) tp p w hv).mono ?_
    rintro e w' ⟨N, rfl, h1, h2, h3⟩
    refine ⟨_, rfl, ⟨_, _, _, rfl, ?_, ?_⟩, h3⟩ <;> (unfold Go.Lib.intSat; split <;> decide)
  | _ =>
    refine CallT.lib hL.dr (Q := fun u => ∃ n t p, u = .tuple #[vi n, .iface t p] ∧ -9223372036854775808 ≤ n ∧ n ≤ 9223372036854775807) (fun w hs2 => ?_) (fun u ⟨n, t, p, hu, b1, b2⟩ => by subst hu; exact k1 (fun v h => by rw [hp] at h; cases h) n t p b1 b2)
    obtain ⟨tp, p, hv⟩ := hL.es L w hs2
    refine (Go.Proofs.Any.strconv_ParseInt_10_at64_syntax_var prsI (txt s) (by omega) (by rw [e1]; exact hp) tp p w hv).mono ?_
    rintro e w' ⟨N, rfl, h1, h2, h3⟩
    exact ⟨_, rfl, ⟨_, _, _, rfl, by omega, by omega⟩, h3⟩
section
variable {P : Program} {σ : Nat → Value} {o : Oper} {T T' : TypeId} {x : Operand}
theorem PV.neqNil (ho : o.op = .binOp .neq T x (.const .nilIface) T') (hT : P.underlying T = some (.interface (P.methodsAt T))) (hx : ev σ x = .nilIface) : PV P o σ G L (.bool false) := by
  intro w hw
  have he : ev σ (.const .nilIface) = .nilIface := rfl
  simp [execOp, ho, hx, he, eqGuard_nil_constR, run_neq_nil_nil w T hT]
theorem PV.neqIf {d : TypeId} {z : Value} (ho : o.op = .binOp .neq T x (.const .nilIface) T') (hT : P.underlying T = some (.interface (P.methodsAt T))) (hx : ev σ x = .iface d z) : PV P o σ G L (.bool true) := by
  intro w hw
  have he : ev σ (.const .nilIface) = .nilIface := rfl
  have hg : eqGuard .neq T x (.const .nilIface) (.iface d z) .nilIface = pure () := by cases x <;> rfl
  simp [execOp, ho, hx, he, hg, run_neq_held_nil w T d z hT]
end
end Go.Proofs.YtcdigjhhmhkffaaDoor
namespace Go.Proofs.YtcdigjhhmhkffaaDoor
set_option linter.unusedVariables false
set_option linter.unusedSimpArgs false
open Go
set_option maxRecDepth 20000
set_option maxHeartbeats 1000000
set_option linter.unusedSimpArgs false
variable {G : Gh} {L : List Ch} {R : Value → Gh → List Ch → Prop}
theorem rdC_long {l : List UInt8} (h : ¬ l.length ≤ 19) : rdC l = none := by rw [rdC, if_neg h]
theorem rdC_yes {l : List UInt8} {v : Int} (h : l.length ≤ 19) (hp : Go.Lib.parseIntB 64 l = .ok v) (e : Go.Lib.itoa v = l) : rdC l = some v := by rw [rdC, if_pos h, hp]; simp [e]
theorem rdC_off {l : List UInt8} {v : Int} (hp : Go.Lib.parseIntB 64 l = .ok v) (e : Go.Lib.itoa v ≠ l) : rdC l = none := by
  rw [rdC]; split
  · rw [hp]; simp [e]
  · rfl
theorem rdC_err {l : List UInt8} (hp : ∀ v, Go.Lib.parseIntB 64 l ≠ .ok v) : rdC l = none := by
  rw [rdC]; split
  · cases h : Go.Lib.parseIntB 64 l with
    | ok v => exact absurd h (hp v)
    | range => rfl
    | _ => rfl
  · rfl
theorem parse_bd {l : List UInt8} {v : Int} (hp : Go.Lib.parseIntB 64 l = .ok v) : -9223372036854775808 ≤ v ∧ v ≤ 9223372036854775807 := by
  have := Go.Lib.parseIntB_bounds hp
  simp at this; omega
theorem txt_inj {a b : List UInt8} (h : txt a = txt b) : a = b := by rw [← txt_list a, h, txt_list]
theorem parse_ok {s : List UInt8} {v : Int} (hL : Lp G) (hs : s.length ≤ 19) (hp : Go.Lib.parseIntB 64 s = .ok v) (k : R (.tuple #[vi v, .nilIface]) G L) : CallT Tryd.prog 18 #[.string (txt s), vi 10, vi 64] G L R :=
  parse_s hL hs (fun v' hv' => by rw [hp] at hv'; injection hv' with e; subst e; exact k) (fun h => absurd hp (h v))
theorem readDec_s {s : List UInt8} (hL : Lp G) (hs : s.length ≤ 1048576) (k : R (.tuple #[vi ((rdC s).getD 0), .bool (rdC s).isSome]) G L) : CallT Tryd.prog 11 #[.string (txt s)] G L R := by
  have hz : (txt s).size = s.length := txt_size s
  by_cases hp : ∃ v, Go.Lib.parseIntB 64 s = .ok v
  · obtain ⟨v, hp⟩ := hp
    obtain ⟨b1, b2⟩ := parse_bd hp
    refine CallT.enter (args := _) Tryd.func11 rfl rfl (by kernel_rfl) rfl ?_
    refine WP.seq ?_
    refine WP.region ?_
    refine RG.pv rfl (PV.mvI (.inr rfl) rfl) ?_
    refine RG.pv rfl (PV.mvB (.inr rfl) rfl) ?_
    refine RG.nil ?_
    refine WP.seq ?_
    refine WP.seq ?_
    refine WP.region ?_
    refine RG.pv rfl (PV.mvS (.inl rfl) rfl) ?_
    refine RG.pv rfl (PV.lenS rfl Tryd.underlying9 rfl) ?_
    refine RG.pv rfl (PV.gtr rfl rfl rfl) ?_
    refine RG.nil ?_
    refine WP.cond rfl (fun h1 => ?_) (fun h1 => ?_)
    · have h1 := of_decide_eq_true h1
      rw [rdC_long (by omega)] at k
      refine WP.seq ?_
      refine WP.region ?_
      refine RG.pv rfl (PV.mvI (.inr rfl) rfl) ?_
      refine RG.pv rfl (PV.mvB (.inr rfl) rfl) ?_
      refine RG.nil ?_
      refine WP.ret ?_
      exact ⟨_, _, ResV.two rfl rfl rfl, Cv.p, k⟩
    · have h1 := of_decide_eq_false h1
      refine WP.skip ?_
      refine WP.seq ?_
      refine WP.region ?_
      refine RG.pv rfl (PV.mvS (.inl rfl) rfl) ?_
      refine RG.callF (vs := [_, _, _]) rfl rfl En18 rfl (parse_ok hL (by omega) hp ?_)
      refine RG.pv rfl (PV.move (v := .tuple _) rfl rfl) ?_
      refine RG.pv rfl (PV.ext rfl rfl rfl) ?_
      refine RG.pv rfl (PV.ext rfl rfl rfl) ?_
      refine RG.pv rfl (PV.mvI (.inr rfl) rfl) ?_
      refine RG.pv rfl (PV.asg rfl rfl) ?_
      refine RG.nil ?_
      refine WP.seq ?_
      refine WP.seq ?_
      refine WP.region ?_
      refine RG.pv rfl (PV.move rfl rfl) ?_
      refine RG.pv rfl (PV.neqNil rfl (by kernel_rfl) rfl) ?_
      refine RG.pv rfl (PV.mvB (.inl rfl) rfl) ?_
      refine RG.gs rfl rfl rfl (fun hp => (PV.mvI (.inl rfl) rfl)) ?_
      refine RG.gsC rfl rfl rfl rfl En19 (fun hp => ⟨_, (acons (gs_t hp) anil), decimal_s hL.toLd (by omega) (by omega) ⟨rfl, rfl, rfl⟩⟩) ?_
      refine RG.gs rfl rfl rfl (fun hp => (PV.mvS (.inl rfl) rfl)) ?_
      refine RG.gs rfl rfl rfl (fun hp => (PV.neqS rfl (gs_t hp) (gs_t hp))) ?_
      refine RG.pv rfl (PV.pickO rfl rfl rfl (fun hq => gs_t (geqF hq))) ?_
      refine RG.nil ?_
      refine WP.cond rfl (fun h2 => ?_) (fun h2 => ?_)
      · have h2 : dec v ≠ txt s := by simpa using h2
        rw [rdC_off hp (fun e => h2 (by rw [dec, e]))] at k
        refine WP.seq ?_
        refine WP.region ?_
        refine RG.pv rfl (PV.mvI (.inr rfl) rfl) ?_
        refine RG.pv rfl (PV.mvB (.inr rfl) rfl) ?_
        refine RG.nil ?_
        refine WP.ret ?_
        exact ⟨_, _, ResV.two rfl rfl rfl, Cv.p, k⟩
      · have h2 : dec v = txt s := by simpa using h2
        rw [rdC_yes (by omega) hp (txt_inj h2)] at k
        refine WP.skip ?_
        refine WP.seq ?_
        refine WP.region ?_
        refine RG.pv rfl (PV.mvI (.inl rfl) rfl) ?_
        refine RG.pv rfl (PV.mvI (.inr rfl) rfl) ?_
        refine RG.pv rfl (PV.mvB (.inr rfl) rfl) ?_
        refine RG.nil ?_
        refine WP.ret ?_
        exact ⟨_, _, ResV.two rfl rfl rfl, Cv.p, k⟩
  · have hp : ∀ v, Go.Lib.parseIntB 64 s ≠ .ok v := fun v h => hp ⟨v, h⟩
    rw [rdC_err hp] at k
    refine CallT.enter (args := _) Tryd.func11 rfl rfl (by kernel_rfl) rfl ?_
    refine WP.seq ?_
    refine WP.region ?_
    refine RG.pv rfl (PV.mvI (.inr rfl) rfl) ?_
    refine RG.pv rfl (PV.mvB (.inr rfl) rfl) ?_
    refine RG.nil ?_
    refine WP.seq ?_
    refine WP.seq ?_
    refine WP.region ?_
    refine RG.pv rfl (PV.mvS (.inl rfl) rfl) ?_
    refine RG.pv rfl (PV.lenS rfl Tryd.underlying9 rfl) ?_
    refine RG.pv rfl (PV.gtr rfl rfl rfl) ?_
    refine RG.nil ?_
    refine WP.cond rfl (fun h1 => ?_) (fun h1 => ?_)
    · refine WP.seq ?_
      refine WP.region ?_
      refine RG.pv rfl (PV.mvI (.inr rfl) rfl) ?_
      refine RG.pv rfl (PV.mvB (.inr rfl) rfl) ?_
      refine RG.nil ?_
      refine WP.ret ?_
      exact ⟨_, _, ResV.two rfl rfl rfl, Cv.p, k⟩
    · have h1 := of_decide_eq_false h1
      refine WP.skip ?_
      refine WP.seq ?_
      refine WP.region ?_
      refine RG.pv rfl (PV.mvS (.inl rfl) rfl) ?_
      refine RG.callF (vs := [_, _, _]) rfl rfl En18 rfl (parse_s hL (by omega) (fun v h => absurd h (hp v)) (fun _ n1 t1 p1 b1 b2 => ?_))
      refine RG.pv rfl (PV.move (v := .tuple _) rfl rfl) ?_
      refine RG.pv rfl (PV.ext rfl rfl rfl) ?_
      refine RG.pv rfl (PV.ext rfl rfl rfl) ?_
      refine RG.pv rfl (PV.mvI (.inr rfl) rfl) ?_
      refine RG.pv rfl (PV.asg rfl rfl) ?_
      refine RG.nil ?_
      refine WP.seq ?_
      refine WP.seq ?_
      refine WP.region ?_
      refine RG.pv rfl (PV.move rfl rfl) ?_
      refine RG.pv rfl (PV.neqIf rfl (by kernel_rfl) rfl) ?_
      refine RG.pv rfl (PV.mvB (.inl rfl) rfl) ?_
      refine RG.gs rfl rfl rfl (fun hp => (PV.mvI (.inl rfl) rfl)) ?_
      refine RG.gsC rfl rfl rfl rfl En19 (fun hp => ⟨_, (acons (gs_t hp) anil), decimal_s hL.toLd b1 b2 ⟨rfl, rfl, rfl⟩⟩) ?_
      refine RG.gs rfl rfl rfl (fun hp => (PV.mvS (.inl rfl) rfl)) ?_
      refine RG.gs rfl rfl rfl (fun hp => (PV.neqS rfl (gs_t hp) (gs_t hp))) ?_
      refine RG.pv rfl (PV.pickO rfl rfl rfl (fun hq => gs_t (geqF hq))) ?_
      refine RG.nil ?_
      refine WP.cond rfl (fun h2 => ?_) (fun h2 => ?_)
      · refine WP.seq ?_
        refine WP.region ?_
        refine RG.pv rfl (PV.mvI (.inr rfl) rfl) ?_
        refine RG.pv rfl (PV.mvB (.inr rfl) rfl) ?_
        refine RG.nil ?_
        refine WP.ret ?_
        exact ⟨_, _, ResV.two rfl rfl rfl, Cv.p, k⟩
      · exfalso; simp at h2
end Go.Proofs.YtcdigjhhmhkffaaDoor
