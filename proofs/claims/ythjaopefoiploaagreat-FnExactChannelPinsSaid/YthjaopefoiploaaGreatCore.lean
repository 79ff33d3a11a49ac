/-
  A small separation logic over the walk of the kit, for any program: the state is the frame (a function of the slots), a ghost heap of published blocks that are only read, and a list of owned chunks.
-/
import Derived.WalkKit
import Derived.Deep.Quiet
import Derived.Deep.LoopGhost
namespace Go.Proofs.YthjaopefoiploaaGreat
open Go

/-! ## Heaps, chunks, states -/
abbrev Hp := Nat → Option Obj
def Hp.le (G H : Hp) : Prop := ∀ b o, G b = some o → H b = some o
theorem Hp.le_refl (G : Hp) : Hp.le G G := fun _ _ h => h
theorem Hp.le_trans {G H K : Hp} (h : Hp.le G H) (k : Hp.le H K) : Hp.le G K := fun b o e => k b o (h b o e)
def Hp.dj (G H : Hp) : Prop := ∀ b, G b = none ∨ H b = none
def wh (w : World) : Hp := fun b => w.heap[b]?
abbrev Ch := Hp → Prop
def Sep : List Ch → Hp → Prop
  | [], _ => True
  | c :: L, h => ∃ h1 h2, Hp.dj h1 h2 ∧ Hp.le h1 h ∧ Hp.le h2 h ∧ c h1 ∧ Sep L h2
/-- what the state knows of the world: the published blocks, the streams -/
structure Gh where
  f : Hp
  os : Os
  tape : Nat → Question → Nat
  out : Array (Nat × ByteArray)
instance : Coe Gh Hp := ⟨Gh.f⟩
def Gh.ok (G : Gh) (w : World) : Prop := w.os = G.os ∧ w.tape = G.tape ∧ w.output = G.out
def Gh.le (G G' : Gh) : Prop := Hp.le G.f G'.f ∧ G.os = G'.os ∧ G.tape = G'.tape ∧ G.out = G'.out
theorem Gh.le_refl (G : Gh) : Gh.le G G := ⟨Hp.le_refl _, rfl, rfl, rfl⟩
theorem Gh.le_trans {G H K : Gh} (h : Gh.le G H) (k : Gh.le H K) : Gh.le G K := ⟨Hp.le_trans h.1 k.1, h.2.1.trans k.2.1, h.2.2.1.trans k.2.2.1, h.2.2.2.trans k.2.2.2⟩
theorem Gh.le_ok {G G' : Gh} (h : Gh.le G G') {w : World} (k : Gh.ok G' w) : Gh.ok G w := ⟨k.1.trans h.2.1.symm, k.2.1.trans h.2.2.1.symm, k.2.2.trans h.2.2.2.symm⟩
/-- of the world, only the heap has changed -/
def Quiet (w w' : World) : Prop := w'.os = w.os ∧ w'.tape = w.tape ∧ w'.output = w.output
theorem Gh.ok_of {G : Gh} {w w' : World} (h : Gh.ok G w) (q : Quiet w w') : Gh.ok G w' := ⟨q.1.trans h.1, q.2.1.trans h.2.1, q.2.2.trans h.2.2⟩
def St (G : Gh) (L : List Ch) (w : World) : Prop :=
  ∃ h, Sep L h ∧ Hp.le G (wh w) ∧ Hp.le h (wh w) ∧ Hp.dj h G ∧ Gh.ok G w

theorem Sep.up : ∀ {L : List Ch} {h h' : Hp}, Sep L h → Hp.le h h' → Sep L h'
  | [], _, _, _, _ => trivial
  | _ :: _, _, _, ⟨h1, h2, d, l1, l2, c, s⟩, le => ⟨h1, h2, d, Hp.le_trans l1 le, Hp.le_trans l2 le, c, s⟩

/-- c taken out of L leaves L'. -/
inductive Ex : Ch → List Ch → List Ch → Prop
  | head (c : Ch) (L : List Ch) : Ex c (c :: L) L
  | tail {c : Ch} {L L' : List Ch} (x : Ch) : Ex c L L' → Ex c (x :: L) (x :: L')

theorem Ex.sep {c : Ch} {L L' : List Ch} (h : Ex c L L') : ∀ {hp : Hp}, Sep L hp → Sep (c :: L') hp := by
  induction h with
  | head => exact fun h => h
  | tail x hx ih =>
    rintro hp ⟨h1, h2, d, l1, l2, cx, s⟩
    obtain ⟨k1, k2, e, m1, m2, cc, s'⟩ := ih s
    refine ⟨k1, fun b => if (k1 b).isSome then none else hp b, ?_, Hp.le_trans m1 l2, ?_, cc, h1, k2, ?_, ?_, ?_, cx, s'⟩
    · intro b; by_cases hb : (k1 b).isSome <;> simp_all
    · intro b o h; by_cases hb : (k1 b).isSome <;> simp_all
    · intro b; rcases d b with h | h
      · exact .inl h
      · right
        cases hk : k2 b with
        | none => rfl
        | some o => have := m2 b o hk; simp [this] at h
    · intro b o h
      have hn : k1 b = none := by
        cases hk : k1 b with
        | none => rfl
        | some o' => have := m1 b o' hk; rcases d b with h' | h' <;> simp_all
      simp only [hn]; exact l1 b o h
    · intro b o h
      have hn : k1 b = none := by rcases e b with h' | h' <;> simp_all
      simp only [hn]; exact l2 b o (m2 b o h)

/-- C picked out of L, the rest dropped. -/
inductive Pick : List Ch → List Ch → Prop
  | refl (L : List Ch) : Pick L L
  | drop {C L : List Ch} (x : Ch) : Pick C L → Pick C (x :: L)
  | cons {c : Ch} {C L L' : List Ch} : Ex c L L' → Pick C L' → Pick (c :: C) L

theorem Pick.sep {C L : List Ch} (h : Pick C L) : ∀ {hp : Hp}, Sep L hp → Sep C hp := by
  induction h with
  | refl L => exact fun h => h
  | drop x _ ih => rintro hp ⟨h1, h2, _, _, l2, _, s⟩; exact ih (s.up l2)
  | cons hx _ ih =>
    intro hp s
    obtain ⟨h1, h2, d, l1, l2, c, s'⟩ := hx.sep s
    exact ⟨h1, h2, d, l1, l2, c, ih s'⟩

theorem St.pick {G : Gh} {L C : List Ch} {w : World} (h : St G L w) (p : Pick C L) : St G C w :=
  let ⟨hp, s, rest⟩ := h; ⟨hp, p.sep s, rest⟩
theorem Pick.nil (L : List Ch) : Pick [] L := by
  induction L with
  | nil => exact .refl _
  | cons x L ih => exact .drop x ih

class ExC (c : Ch) (L : List Ch) (L' : outParam (List Ch)) : Prop where
  ex : Ex c L L'
instance (priority := low) (c x : Ch) (L L' : List Ch) [h : ExC c L L'] : ExC c (x :: L) (x :: L') := ⟨.tail x h.ex⟩
instance (c : Ch) (L : List Ch) : ExC c (c :: L) L := ⟨.head c L⟩
class PickC (C L : List Ch) : Prop where
  pick : Pick C L
instance (priority := 10) (x : Ch) (C L : List Ch) [h : PickC C L] : PickC C (x :: L) := ⟨.drop x h.pick⟩
instance (priority := 20) (c : Ch) (C L L' : List Ch) [h : ExC c L L'] [k : PickC C L'] : PickC (c :: C) L := ⟨.cons h.ex k.pick⟩
instance (priority := 30) (L : List Ch) : PickC L L := ⟨.refl L⟩
instance (priority := 40) (L : List Ch) : PickC [] L := ⟨.nil L⟩

/-- what is owned, regrouped -/
def Cv (L L' : List Ch) : Prop := ∀ hp, Sep L hp → Sep L' hp
theorem Cv.refl (L : List Ch) : Cv L L := fun _ h => h
theorem Cv.trans {A B C : List Ch} (h : Cv A B) (k : Cv B C) : Cv A C := fun hp s => k hp (h hp s)
theorem Cv.pick {C L : List Ch} (p : Pick C L) : Cv L C := fun _ s => p.sep s
theorem Cv.p {C L : List Ch} [p : PickC C L] : Cv L C := Cv.pick p.pick
theorem St.cv {G : Gh} {L L' : List Ch} {w : World} (h : St G L w) (c : Cv L L') : St G L' w := let ⟨hp, s, rest⟩ := h; ⟨hp, c hp s, rest⟩

/-! ## Frames -/
def ev (σ : Nat → Value) : Operand → Value
  | .tmp t => σ t
  | .const v => v
  | .global g => .pointer (some ⟨g, 0, none⟩)
  | .func f => .func (.func f) #[] #[]
def upd (σ : Nat → Value) (d : Nat) (v : Value) : Nat → Value := fun t => bif Nat.beq t d then v else σ t
def updo (σ : Nat → Value) : Option Tmp → Value → Nat → Value
  | some d, v => upd σ d v
  | none, _ => σ
def upds (σ : Nat → Value) : List (Nat × Value) → Nat → Value
  | [] => σ
  | (d, v) :: l => upd (upds σ l) d v
structure Ag (n : Nat) (σ : Nat → Value) (a : Act) : Prop where
  d : a.defers = []
  n : a.tmps.size = n
  e : ∀ t, a.tmps.getD t undef = σ t
def Tok (n : Nat) : Option Tmp → Bool
  | some d => Nat.blt d n
  | none => true

theorem Ag.eval {n : Nat} {σ : Nat → Value} {a : Act} (h : Ag n σ a) : a.eval = ev σ := by
  funext x; cases x <;> simp [Act.eval, ev, h.e]
theorem Ag.put {n : Nat} {σ : Nat → Value} {a : Act} (h : Ag n σ a) {d : Option Tmp} (hd : Tok n d = true) (v : Value) : Ag n (updo σ d v) (a.put d v) := by
  cases d with
  | none => exact h
  | some d =>
    have hlt : d < a.tmps.size := by
      have h1 : d + 1 ≤ n := by simpa [Tok, Nat.blt] using hd
      exact Nat.lt_of_lt_of_eq h1 h.n.symm
    refine ⟨h.d, by simp [Act.put, h.n], fun t => ?_⟩
    simp only [Act.put, updo, upd]
    by_cases e : t = d
    · subst e; simp [hlt]
    · have : Nat.beq t d = false := by cases hb : Nat.beq t d with
        | false => rfl
        | true => exact absurd (Nat.eq_of_beq_eq_true hb) e
      simp only [this, cond_false]
      rw [← h.e t]
      simp [Ne.symm e]
theorem Ag.ext {n : Nat} {σ τ : Nat → Value} {a : Act} (h : Ag n σ a) (e : ∀ t, σ t = τ t) : Ag n τ a := ⟨h.d, h.n, fun t => (h.e t).trans (e t)⟩

/-! ## Code -/
abbrev Post := Exit → (Nat → Value) → Gh → List Ch → Prop
def lift (n : Nat) (Q : Post) : Exit → Act → World → Prop := fun e a w => ∃ σ G L, Ag n σ a ∧ St G L w ∧ Q e σ G L
def opsOk (n : Nat) (l : List Oper) : Bool := l.all fun o => Tok n o.dst
def codeOk (n : Nat) : Code → Bool
  | .region _ ops _ => opsOk n ops.toList
  | .seq a b => codeOk n a && codeOk n b
  | .cond _ a b => codeOk n a && codeOk n b
  | .block _ a => codeOk n a
  | .loop a => codeOk n a
  | .scope a => codeOk n a
  | _ => true
@[irreducible] def WP (P : Program) (n : Nat) (c : Code) (Q : Post) (σ : Nat → Value) (G : Gh) (L : List Ch) : Prop :=
  codeOk n c = true → ∀ a w, Ag n σ a → St G L w → c.wp P (lift n Q) a w
/-- the next piece of code -/
def thenP (N : (Nat → Value) → Gh → List Ch → Prop) (Q : Post) : Post
  | .normal, σ, G, L => N σ G L
  | e, σ, G, L => Q e σ G L
def blockP (id : Nat) (Q : Post) : Post
  | .exit i, σ, G, L => bif Nat.beq i id then Q .normal σ G L else Q (.exit i) σ G L
  | e, σ, G, L => Q e σ G L

section rules
variable {P : Program} {n : Nat} {Q : Post} {σ : Nat → Value} {G : Gh} {L : List Ch}

theorem WP.mono {c : Code} {Q' : Post} (h : WP P n c Q σ G L) (hq : ∀ e σ G L, Q e σ G L → Q' e σ G L) : WP P n c Q' σ G L := by
  unfold WP at *
  exact fun hk a w ha hs => wp_mono (h hk a w ha hs) fun e a w ⟨σ, G, L, h1, h2, h3⟩ => ⟨σ, G, L, h1, h2, hq _ _ _ _ h3⟩
theorem WP.skip (h : Q .normal σ G L) : WP P n .skip Q σ G L := by
  unfold WP; exact fun _ _ _ ha hs => wp_skip ⟨σ, G, L, ha, hs, h⟩
theorem WP.exit {id : Nat} (h : Q (.exit id) σ G L) : WP P n (.exit id) Q σ G L := by
  unfold WP; exact fun _ _ _ ha hs => wp_exit ⟨σ, G, L, ha, hs, h⟩
theorem WP.ret (h : Q .ret σ G L) : WP P n .ret Q σ G L := by
  unfold WP; exact fun _ _ _ ha hs => wp_ret ⟨σ, G, L, ha, hs, h⟩
theorem WP.label {l : Nat} (h : Q .normal σ G L) : WP P n (.label l) Q σ G L := by
  unfold WP; exact fun _ _ _ ha hs => wp_label ⟨σ, G, L, ha, hs, h⟩
theorem WP.run {c : Code} (h : WP P n c Q σ G L) (hk : codeOk n c = true) {a : Act} {w : World} (ha : Ag n σ a) (hs : St G L w) : c.wp P (lift n Q) a w := by
  unfold WP at h; exact h hk a w ha hs
theorem WP.of {c : Code} (h : codeOk n c = true → ∀ a w, Ag n σ a → St G L w → c.wp P (lift n Q) a w) : WP P n c Q σ G L := by
  unfold WP; exact h
theorem WP.seq {x y : Code} (h : WP P n x (thenP (WP P n y Q) Q) σ G L) : WP P n (.seq x y) Q σ G L := by
  refine WP.of ?_
  intro hk a w ha hs
  simp only [codeOk, Bool.and_eq_true] at hk
  refine wp_seq (wp_mono (h.run hk.1 ha hs) ?_)
  rintro e a w ⟨σ, G, L, h1, h2, h3⟩
  cases e with
  | normal => have h3 : WP P n y Q σ G L := h3; exact h3.run hk.2 h1 h2
  | _ => exact ⟨σ, G, L, h1, h2, h3⟩
theorem WP.cond {c : Operand} {x y : Code} {b : Bool} (hc : ev σ c = .bool b) (ht : b = true → WP P n x Q σ G L) (hf : b = false → WP P n y Q σ G L) : WP P n (.cond c x y) Q σ G L := by
  unfold WP at *
  intro hk a w ha hs
  simp only [codeOk, Bool.and_eq_true] at hk
  exact wp_cond_split (by rw [ha.eval]; exact hc) (fun h => ht h hk.1 a w ha hs) (fun h => hf h hk.2 a w ha hs)
theorem WP.block {id : Nat} {c : Code} (h : WP P n c (blockP id Q) σ G L) : WP P n (.block id c) Q σ G L := by
  unfold WP at *
  intro hk a w ha hs
  refine wp_block (wp_mono (h hk a w ha hs) ?_)
  rintro e a w ⟨σ, G, L, h1, h2, h3⟩
  cases e with
  | exit i =>
    by_cases e : i = id
    · subst e
      have h3 : (bif Nat.beq i i then Q .normal σ G L else Q (.exit i) σ G L) := h3
      rw [Nat.beq_refl] at h3
      simp only [Exit.inBlock, if_true]; exact ⟨σ, G, L, h1, h2, h3⟩
    · have h3 : (bif Nat.beq i id then Q .normal σ G L else Q (.exit i) σ G L) := h3
      have : Nat.beq i id = false := by cases hb : Nat.beq i id with
        | false => rfl
        | true => exact absurd (Nat.eq_of_beq_eq_true hb) e
      rw [this] at h3
      simp only [Exit.inBlock, e, if_false]; exact ⟨σ, G, L, h1, h2, h3⟩
  | _ => exact ⟨σ, G, L, h1, h2, h3⟩

/-- weaken the state: any slots but those named are forgotten, chunks are dropped -/
theorem upds_agree : ∀ {vals : List (Nat × Value)} {τ : Nat → Value}, (∀ p ∈ vals, τ p.1 = p.2) → ∀ t, τ t = upds τ vals t
  | [], _, _, _ => rfl
  | (d, v) :: l, τ, h, t => by
    simp only [upds, upd]
    by_cases e : t = d
    · subst e; rw [Nat.beq_refl]; exact h (t, v) (.head _)
    · have : Nat.beq t d = false := by cases hb : Nat.beq t d with
        | false => rfl
        | true => exact absurd (Nat.eq_of_beq_eq_true hb) e
      simp only [this, cond_false]
      exact upds_agree (fun p hp => h p (.tail _ hp)) t

theorem WP.weak {c : Code} (vals : List (Nat × Value)) (C : List Ch) (hv : ∀ p ∈ vals, σ p.1 = p.2) (hC : Cv L C)
    (h : ∀ τ, WP P n c Q (upds τ vals) G C) : WP P n c Q σ G L := by
  have h := h σ
  unfold WP at *
  exact fun hk a w ha hs => h hk a w (ha.ext (upds_agree hv)) (hs.cv hC)

/-- the slots named hold these values -/
def HasV (σ : Nat → Value) : List (Nat × Value) → Prop
  | [] => True
  | (t, v) :: l => σ t = v ∧ HasV σ l
theorem HasV.all : ∀ {l : List (Nat × Value)} {σ : Nat → Value}, HasV σ l → ∀ p ∈ l, σ p.1 = p.2
  | (_, _) :: _, _, h, p, hp => by
    cases hp with
    | head => exact h.1
    | tail _ hp => exact HasV.all h.2 p hp
theorem HasV.append : ∀ {l m : List (Nat × Value)} {σ : Nat → Value}, HasV σ l → HasV σ m → HasV σ (l ++ m)
  | [], _, _, _, h => h
  | (_, _) :: _, _, _, h, k => ⟨h.1, HasV.append h.2 k⟩
/-- these slots as they are in σ -/
def kept (σ : Nat → Value) : List Nat → List (Nat × Value)
  | [] => []
  | t :: l => (t, σ t) :: kept σ l
def updk (τ σ : Nat → Value) : List Nat → Nat → Value
  | [] => τ
  | t :: l => upd (updk τ σ l) t (σ t)
theorem upds_append : ∀ (l m : List (Nat × Value)) (σ : Nat → Value), upds σ (l ++ m) = upds (upds σ m) l
  | [], _, _ => rfl
  | (_, _) :: l, m, σ => by simp only [List.cons_append, upds, upds_append l m σ]
theorem upds_kept : ∀ (l : List Nat) (τ σ : Nat → Value), upds τ (kept σ l) = updk τ σ l
  | [], _, _ => rfl
  | _ :: l, τ, σ => by simp only [kept, upds, updk, upds_kept l τ σ]
/-- the slots of `keep` are as in σ0 -/
def Keeps (σ σ0 : Nat → Value) : List Nat → Prop
  | [] => True
  | t :: l => σ t = σ0 t ∧ Keeps σ σ0 l
theorem Keeps.has : ∀ {l : List Nat} {σ σ0 : Nat → Value}, Keeps σ σ0 l → HasV σ (kept σ0 l)
  | [], _, _, _ => trivial
  | _ :: _, _, _, h => ⟨h.1, Keeps.has h.2⟩
theorem Keeps.self : ∀ (l : List Nat) (σ : Nat → Value), Keeps σ σ l
  | [], _ => trivial
  | _ :: l, σ => ⟨rfl, Keeps.self l σ⟩

/-- A LOOP: X the ghost state; J what holds of it; S the slots that the round writes, `keep` those that it leaves, C the chunks, μ a measure. -/
theorem WP.loop {c : Code} {X : Type} (keep : List Nat) (J : X → Gh → Prop) (S : X → List (Nat × Value)) (C : X → List Ch) (μ : X → Nat) (x0 : X) (j0 : J x0 G) (h0 : HasV σ (S x0)) (p0 : Cv L (C x0))
    (round : ∀ x G τ, J x G → WP P n c (thenP (fun σ' G' L' => ∃ x', J x' G' ∧ HasV σ' (S x') ∧ Keeps σ' σ keep ∧ Cv L' (C x') ∧ μ x' < μ x) Q) (upds (updk τ σ keep) (S x)) G (C x)) : WP P n (.loop c) Q σ G L := by
  refine WP.of ?_
  intro hk a w ha hs
  refine wp_loop_ghost (fun m a w => ∃ x σ1 G L, μ x = m ∧ Ag n σ1 a ∧ St G L w ∧ J x G ∧ HasV σ1 (S x) ∧ Keeps σ1 σ keep ∧ Cv L (C x)) (μ x0) ⟨x0, σ, G, L, rfl, ha, hs, j0, h0, Keeps.self _ _, p0⟩ ?_
  rintro m a w ⟨x, σ1, G, L, rfl, ha, hs, hj, hv, hkp, hc⟩
  have hx := fun t => upds_agree (hv.append hkp.has).all t
  have hr := round x G σ1 hj
  rw [← upds_kept, ← upds_append] at hr
  refine wp_mono (hr.run hk (ha.ext hx) (hs.cv hc)) ?_
  rintro e a' w' ⟨σ', G', L', h1, h2, h3⟩
  cases e with
  | normal =>
    obtain ⟨x', hj', hv', hk', hc', hlt⟩ := h3
    exact ⟨μ x', hlt, x', σ', G', L', rfl, h1, h2, hj', hv', hk', hc'⟩
  | _ => exact ⟨σ', G', L', h1, h2, h3⟩
theorem WP.loop0 {c : Code} (keep : List Nat) {A : Type} (J : A → Prop) (S : A → List (Nat × Value)) (C : A → List Ch) (μ : A → Nat) (a0 : A) (j0 : J a0) (h0 : HasV σ (S a0)) (p0 : Cv L (C a0))
    (round : ∀ a τ, J a → WP P n c (thenP (fun σ' G' L' => G' = G ∧ ∃ a', J a' ∧ HasV σ' (S a') ∧ Keeps σ' σ keep ∧ Cv L' (C a') ∧ μ a' < μ a) Q) (upds (updk τ σ keep) (S a)) G (C a)) : WP P n (.loop c) Q σ G L :=
  WP.loop keep (fun a G' => G' = G ∧ J a) S C μ a0 ⟨rfl, j0⟩ h0 p0 fun a G' τ ⟨e, j⟩ => by
    subst e
    exact WP.mono (round a τ j) fun e σ G L hq => by
      cases e with
      | normal => obtain ⟨rfl, a', h1, h2⟩ := hq; exact ⟨a', ⟨rfl, h1⟩, h2⟩
      | _ => exact hq
theorem WP.loop1 {c : Code} (keep : List Nat) {A : Type} (J : A → Prop) (S : A → List (Nat × Value)) (C : A → List Ch) (μ : A → Nat) (a0 : A) (j0 : J a0) (h0 : HasV σ (S a0)) (p0 : Cv L (C a0))
    (round : ∀ a τ, J a → WP P n c (thenP (fun σ' G' L' => G' = G ∧ ∃ a', J a' ∧ HasV σ' (S a') ∧ Keeps σ' σ keep ∧ Cv L' (C a') ∧ μ a' < μ a) Q) (upds (updk τ σ keep) (S a)) G (C a)) : WP P n (.loop c) Q σ G L :=
  WP.loop0 keep J S C μ a0 j0 h0 p0 round
theorem WP.loop2 {c : Code} (keep : List Nat) {A B : Type} (J : A → B → Prop) (S : A → B → List (Nat × Value)) (C : A → B → List Ch) (μ : A → B → Nat) (a0 : A) (b0 : B) (j0 : J a0 b0) (h0 : HasV σ (S a0 b0)) (p0 : Cv L (C a0 b0))
    (round : ∀ a b τ, J a b → WP P n c (thenP (fun σ' G' L' => G' = G ∧ ∃ a' b', J a' b' ∧ HasV σ' (S a' b') ∧ Keeps σ' σ keep ∧ Cv L' (C a' b') ∧ μ a' b' < μ a b) Q) (upds (updk τ σ keep) (S a b)) G (C a b)) : WP P n (.loop c) Q σ G L :=
  WP.loop0 keep (A := A × B) (fun x => J x.1 x.2) (fun x => S x.1 x.2) (fun x => C x.1 x.2) (fun x => μ x.1 x.2) (a0, b0) j0 h0 p0 fun x τ j =>
    WP.mono (round x.1 x.2 τ j) fun e σ G L hq => by
      cases e with
      | normal => obtain ⟨e, a', b', h⟩ := hq; exact ⟨e, (a', b'), h⟩
      | _ => exact hq
theorem WP.loop3 {c : Code} (keep : List Nat) {A B D : Type} (J : A → B → D → Prop) (S : A → B → D → List (Nat × Value)) (C : A → B → D → List Ch) (μ : A → B → D → Nat) (a0 : A) (b0 : B) (d0 : D) (j0 : J a0 b0 d0) (h0 : HasV σ (S a0 b0 d0)) (p0 : Cv L (C a0 b0 d0))
    (round : ∀ a b d τ, J a b d → WP P n c (thenP (fun σ' G' L' => G' = G ∧ ∃ a' b' d', J a' b' d' ∧ HasV σ' (S a' b' d') ∧ Keeps σ' σ keep ∧ Cv L' (C a' b' d') ∧ μ a' b' d' < μ a b d) Q) (upds (updk τ σ keep) (S a b d)) G (C a b d)) : WP P n (.loop c) Q σ G L :=
  WP.loop0 keep (A := A × B × D) (fun x => J x.1 x.2.1 x.2.2) (fun x => S x.1 x.2.1 x.2.2) (fun x => C x.1 x.2.1 x.2.2) (fun x => μ x.1 x.2.1 x.2.2) (a0, b0, d0) j0 h0 p0 fun x τ j =>
    WP.mono (round x.1 x.2.1 x.2.2 τ j) fun e σ G L hq => by
      cases e with
      | normal => obtain ⟨e, a', b', d', h⟩ := hq; exact ⟨e, (a', b', d'), h⟩
      | _ => exact hq

/-- A CUT: the ways meet again in a state told by J, S, C. -/
theorem WP.cut {x y : Code} {X : Type} (keep : List Nat) (J : X → Gh → Prop) (S : X → List (Nat × Value)) (C : X → List Ch)
    (h : WP P n x (thenP (fun σ' G' L' => ∃ x', J x' G' ∧ HasV σ' (S x') ∧ Keeps σ' σ keep ∧ Cv L' (C x')) Q) σ G L)
    (k : ∀ x' G τ, J x' G → WP P n y Q (upds (updk τ σ keep) (S x')) G (C x')) : WP P n (.seq x y) Q σ G L := by
  refine WP.seq (WP.mono h ?_)
  intro e σ' G L hq
  cases e with
  | normal =>
    obtain ⟨x', hj, hv, hk, hc⟩ := hq
    refine WP.weak (S x' ++ kept σ keep) (C x') (hv.append hk.has).all hc fun τ => ?_
    rw [upds_append, upds_kept]
    exact k x' G τ hj
  | _ => exact hq
/-- a cut at which only slots change -/
theorem WP.cut1 {x y : Code} {A : Type} (keep : List Nat) (J : A → Prop) (S : A → List (Nat × Value)) (C : A → List Ch)
    (h : WP P n x (thenP (fun σ' G' L' => G' = G ∧ ∃ a, J a ∧ HasV σ' (S a) ∧ Keeps σ' σ keep ∧ Cv L' (C a)) Q) σ G L)
    (k : ∀ a τ, J a → WP P n y Q (upds (updk τ σ keep) (S a)) G (C a)) : WP P n (.seq x y) Q σ G L :=
  WP.cut keep (fun a G' => G' = G ∧ J a) S C (WP.mono h fun e σ G L hq => by
      cases e with
      | normal => obtain ⟨rfl, a', h1, h2⟩ := hq; exact ⟨a', ⟨rfl, h1⟩, h2⟩
      | _ => exact hq) fun a G' τ ⟨e, j⟩ => by subst e; exact k a τ j
theorem WP.cut2 {x y : Code} {A B : Type} (keep : List Nat) (J : A → B → Prop) (S : A → B → List (Nat × Value)) (C : A → B → List Ch)
    (h : WP P n x (thenP (fun σ' G' L' => G' = G ∧ ∃ a b, J a b ∧ HasV σ' (S a b) ∧ Keeps σ' σ keep ∧ Cv L' (C a b)) Q) σ G L)
    (k : ∀ a b τ, J a b → WP P n y Q (upds (updk τ σ keep) (S a b)) G (C a b)) : WP P n (.seq x y) Q σ G L :=
  WP.cut1 keep (A := A × B) (fun x => J x.1 x.2) (fun x => S x.1 x.2) (fun x => C x.1 x.2) (WP.mono h fun e σ G L hq => by
      cases e with
      | normal => obtain ⟨e, a', b', h⟩ := hq; exact ⟨e, (a', b'), h⟩
      | _ => exact hq) fun a τ j => k a.1 a.2 τ j
theorem WP.cut3 {x y : Code} {A B D : Type} (keep : List Nat) (J : A → B → D → Prop) (S : A → B → D → List (Nat × Value)) (C : A → B → D → List Ch)
    (h : WP P n x (thenP (fun σ' G' L' => G' = G ∧ ∃ a b d, J a b d ∧ HasV σ' (S a b d) ∧ Keeps σ' σ keep ∧ Cv L' (C a b d)) Q) σ G L)
    (k : ∀ a b d τ, J a b d → WP P n y Q (upds (updk τ σ keep) (S a b d)) G (C a b d)) : WP P n (.seq x y) Q σ G L :=
  WP.cut1 keep (A := A × B × D) (fun x => J x.1 x.2.1 x.2.2) (fun x => S x.1 x.2.1 x.2.2) (fun x => C x.1 x.2.1 x.2.2) (WP.mono h fun e σ G L hq => by
      cases e with
      | normal => obtain ⟨e, a', b', d', h⟩ := hq; exact ⟨e, (a', b', d'), h⟩
      | _ => exact hq) fun a τ j => k a.1 a.2.1 a.2.2 τ j
end rules
end Go.Proofs.YthjaopefoiploaaGreat
