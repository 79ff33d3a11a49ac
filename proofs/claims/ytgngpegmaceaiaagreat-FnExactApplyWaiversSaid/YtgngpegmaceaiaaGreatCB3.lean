/-
  Contracts of functions and plain facts that the last text of this folder uses, part 3.
-/
import Derived.Test.YtgngpegmaceaiaaGreatCB2
namespace Go.Proofs.YtgngpegmaceaiaaGreat
set_option linter.unusedVariables false
set_option linter.unusedSimpArgs false
open Go
set_option maxRecDepth 20000
set_option linter.unusedSimpArgs false
variable {G : Gh} {L : List Ch} {R : Value → Gh → List Ch → Prop}
theorem WP.st {P : Program} {n : Nat} {c : Code} {Q : Post} {σ : Nat → Value} {A : Prop} (h : ∀ w, St G L w → A) (k : A → WP P n c Q σ G L) : WP P n c Q σ G L := WP.of fun hk _ w ha hs => (k (h w hs)).run hk ha hs
def lenS {α : Type} (s : Sl α) : Int := s.xs.length
theorem lenS_nn {α : Type} (s : Sl α) : 0 ≤ lenS s := by simp [lenS]
theorem costL_er {α : Type} {n : α → Int} {xs ys : List (Sl α)} (h : er xs = er ys) : costL (nSl n) xs = costL (nSl n) ys := by
  have key : ∀ zs : List (Sl α), costL (nSl n) zs = costL (costL n) (er zs) := fun zs => by
    induction zs with
    | nil => rfl
    | cons z zs ih => simp only [er, List.map_cons, costL] at ih ⊢; rw [ih]; rfl
  rw [key, key, h]
theorem costL_scale {α : Type} {n m : α → Int} (c : Int) (h : ∀ a, n a = c * m a) : ∀ xs : List α, costL n xs = c * costL m xs
  | [] => by simp [costL]
  | x :: xs => by simp only [costL, h x, costL_scale c h xs, Int.mul_add]
theorem costL_mem {α : Type} [Inhabited α] {n : α → Int} (hn : ∀ a, 0 ≤ n a) {xs : List α} {i : Nat} (h : i < xs.length) : n (gd xs i) ≤ costL n xs := by
  have h1 := costL_take n h
  have h2 := costL_le hn xs (i + 1)
  have h3 := costL_nonneg hn (xs.take i)
  omega
theorem nRS_lenS (xs : List (Sl Rect)) : costL nRS xs = 4 * costL lenS xs := costL_scale 4 (fun s => by simp [nSl, nRect_cost, lenS]) xs
def szOf (xs : List (Sl Rect)) : Int := xs.length + costL lenS xs
theorem szRectSS_s {v : Value} {xs : List (Sl Rect)} {n : Int} (h1 : Rs G L slT v xs) (hd : RsE G L rectT xs) (hn : n ≤ 1048576) (h0 : 0 ≤ n) (k : ∀ r : Int, r ≤ n → (0 ≤ r → r = n - szOf xs) → R (vi r) G L) : CallT Tryz.prog 19 #[v, vi n] G L R := by
  refine CallT.bd h1 fun hb => ?_
  refine CallT.enter (args := _) Tryz.func19 rfl rfl (by kernel_rfl) rfl ?_
  refine WP.seq ?_
  refine WP.region ?_
  refine RG.pv rfl (PV.mvI (.inr rfl) rfl) ?_
  refine RG.nil ?_
  refine WP.seq ?_
  refine WP.region ?_
  refine RG.pv rfl (PV.mvI (.inl rfl) rfl) ?_
  refine RG.pv rfl (PV.move (v := v) rfl rfl) ?_
  refine RG.pv rfl (PV.len (v := v) rfl Tryz.underlying42 rfl (SlF.r h1)) ?_
  refine RG.pv rfl (PV.sub rfl rfl rfl (by omega)) ?_
  refine RG.pv rfl (PV.mvI (.inr rfl) rfl) ?_
  refine RG.nil ?_
  refine WP.seq ?_
  refine WP.seq ?_
  refine WP.region ?_
  refine RG.pv rfl (PV.mvI (.inl rfl) rfl) ?_
  refine RG.pv rfl (PV.lss rfl rfl rfl) ?_
  refine RG.nil ?_
  refine WP.cond rfl (fun h2 => ?_) (fun h2 => ?_)
  · have h2 := of_decide_eq_true h2
    refine WP.seq ?_
    refine WP.region ?_
    refine RG.pv rfl (PV.mvI (.inr rfl) rfl) ?_
    refine RG.nil ?_
    refine WP.ret ?_
    exact ⟨_, _, ResV.one rfl rfl, Cv.p, k _ (by omega) (fun h => by omega)⟩
  · have h2 := of_decide_eq_false h2
    refine WP.skip ?_
    refine WP.seq ?_
    refine WP.seq ?_
    refine WP.region ?_
    refine RG.pv rfl (PV.mvI (.inr rfl) rfl) ?_
    refine RG.nil ?_
    refine WP.block ?_
    refine WP.loop2 [0] (fun (i : Nat) (m : Int) => i ≤ xs.length ∧ 0 ≤ m ∧ m = n - xs.length - costL lenS (xs.take i)) (fun (i : Nat) (m : Int) => [(5, vi i), (1, vi m)]) (fun (i : Nat) (m : Int) => L) (fun (i : Nat) (m : Int) => xs.length - i) 0 (n - xs.length) ⟨by omega, by omega, by simp [costL]⟩ ⟨rfl, rfl, trivial⟩ Cv.p ?_
    rintro i m τ ⟨hi, hm0, hm1⟩
    refine WP.seq ?_
    refine WP.seq ?_
    refine WP.region ?_
    refine RG.pv rfl (PV.mvI (.inl rfl) rfl) ?_
    refine RG.pv rfl (PV.move (v := v) rfl rfl) ?_
    refine RG.pv rfl (PV.len (v := v) rfl Tryz.underlying42 rfl (SlF.r h1)) ?_
    refine RG.pv rfl (PV.lss rfl rfl rfl) ?_
    refine RG.nil ?_
    refine WP.cond rfl (fun h3 => ?_) (fun h3 => ?_)
    · have h3 := of_decide_eq_true h3
      have hct := costL_take lenS (xs := xs) (i := i) (by omega)
      have hcn : 0 ≤ costL lenS (xs.take i) := costL_nonneg lenS_nn _
      refine WP.skip ?_
      refine WP.seq ?_
      refine WP.block ?_
      refine WP.seq ?_
      refine WP.region ?_
      refine RG.pv rfl (PV.move (v := v) rfl rfl) ?_
      refine RG.pv rfl (PV.mvI (.inl rfl) rfl) ?_
      refine RG.pv rfl (PV.idxS (v := v) rfl Is42 rfl (SlF.r h1) rfl rfl (by omega)) ?_
      refine RG.pv rfl (PV.loadE1 rfl Sc25 rfl rfl (El.r h1 (getG (by omega))) rfl) ?_
      refine RG.pv rfl (PV.mvI (.inl rfl) rfl) ?_
      refine RG.callF (vs := [_, _]) rfl rfl En18 rfl (szRectS_s ((hd i (by omega)).up) (by omega) (by omega) (fun r hr hr' => ?_))
      refine RG.pv rfl (PV.mvI (.inr rfl) rfl) ?_
      refine RG.nil ?_
      refine WP.seq ?_
      refine WP.region ?_
      refine RG.pv rfl (PV.mvI (.inl rfl) rfl) ?_
      refine RG.pv rfl (PV.lss rfl rfl rfl) ?_
      refine RG.nil ?_
      refine WP.cond rfl (fun h5 => ?_) (fun h5 => ?_)
      · have h5 := of_decide_eq_true h5
        refine WP.seq ?_
        refine WP.region ?_
        refine RG.pv rfl (PV.mvI (.inr rfl) rfl) ?_
        refine RG.nil ?_
        refine WP.ret ?_
        exact ⟨_, _, ResV.one rfl rfl, Cv.p, k _ (by omega) (fun h => by omega)⟩
      · have h5 := of_decide_eq_false h5
        refine WP.skip ?_
        refine WP.region ?_
        refine RG.pv rfl (PV.mvI (.inl rfl) rfl) ?_
        refine RG.pv rfl (PV.add rfl rfl rfl (by omega)) ?_
        refine RG.pv rfl (PV.mvI (.inr rfl) rfl) ?_
        refine RG.nil ?_
        refine ⟨rfl, i + 1, _, ⟨by omega, by omega, ?_⟩, ⟨rfl, rfl, trivial⟩, ⟨rfl, trivial⟩, Cv.p, by omega⟩
        have hr' := hr' (by omega)
        rw [hct, lenS]; omega
    · have h3 := of_decide_eq_false h3
      refine WP.exit ?_
      refine WP.seq ?_
      refine WP.region ?_
      refine RG.pv rfl (PV.mvI (.inl rfl) rfl) ?_
      refine RG.pv rfl (PV.mvI (.inr rfl) rfl) ?_
      refine RG.nil ?_
      refine WP.ret ?_
      exact ⟨_, _, ResV.one rfl rfl, Cv.p, k _ (by have : 0 ≤ costL lenS (xs.take i) := costL_nonneg lenS_nn _; omega) (fun h => by rw [List.take_of_length_le (by omega)] at hm1; simp only [szOf]; omega)⟩
def chanR (l : List (List Rect)) : List Rect := bif isLay l then canon (zipB (fun p q => p && q) (bits (gd l 0)) (bits (gd l 1))) else []
theorem chanR_len (l : List (List Rect)) : (chanR l).length ≤ 3200 := by
  unfold chanR; cases isLay l
  · simp
  · exact canon_len _
end Go.Proofs.YtgngpegmaceaiaaGreat
namespace Go.Proofs.YtgngpegmaceaiaaGreat
set_option linter.unusedVariables false
set_option linter.unusedSimpArgs false
def rot : Nat → Pt → Pt
  | 0, p => p
  | n + 1, p => rot n ⟨-p.y, p.x⟩
def flip (o : Int) (p : Pt) : Pt := if 4 ≤ o then ⟨p.x, -p.y⟩ else p
def turnP (o : Int) (p : Pt) : Pt := rot (o % 4).toNat (flip o p)
def InB (b : Int) (p : Pt) : Prop := -b ≤ p.x ∧ p.x ≤ b ∧ -b ≤ p.y ∧ p.y ≤ b
theorem rot_in {b : Int} : ∀ (n : Nat) {p : Pt}, InB b p → InB b (rot n p)
  | 0, _, h => h
  | n + 1, p, h => rot_in n (by obtain ⟨h1, h2, h3, h4⟩ := h; exact ⟨by simp only; omega, by simp only; omega, h1, h2⟩)
theorem flip_in {b o : Int} {p : Pt} (h : InB b p) : InB b (flip o p) := by
  unfold flip; split
  · obtain ⟨h1, h2, h3, h4⟩ := h; exact ⟨h1, h2, by simp only; omega, by simp only; omega⟩
  · exact h
theorem turnP_in {b o : Int} {p : Pt} (h : InB b p) : InB b (turnP o p) := rot_in _ (flip_in h)
def moveP (t : Trans) (p : Pt) : Pt := ⟨(turnP t.o p).x + t.x, (turnP t.o p).y + t.y⟩
def moveR (t : Trans) (r : Rect) : Rect :=
  ⟨min (moveP t ⟨r.x0, r.y0⟩).x (moveP t ⟨r.x1, r.y1⟩).x, min (moveP t ⟨r.x0, r.y0⟩).y (moveP t ⟨r.x1, r.y1⟩).y, max (moveP t ⟨r.x0, r.y0⟩).x (moveP t ⟨r.x1, r.y1⟩).x, max (moveP t ⟨r.x0, r.y0⟩).y (moveP t ⟨r.x1, r.y1⟩).y⟩
/-- at most this far out -/
def RIn (b : Int) (r : Rect) : Prop := -b ≤ r.x0 ∧ r.x0 < r.x1 ∧ r.x1 ≤ b ∧ -b ≤ r.y0 ∧ r.y0 < r.y1 ∧ r.y1 ≤ b
theorem moveR_turn {o b : Int} (h : 0 ≤ o ∧ o ≤ 7) {r : Rect} (hr : RIn b r) : RIn b (moveR ⟨o, 0, 0⟩ r) := by
  obtain ⟨h1, h2, h3, h4, h5, h6⟩ := hr
  have ho : o = 0 ∨ o = 1 ∨ o = 2 ∨ o = 3 ∨ o = 4 ∨ o = 5 ∨ o = 6 ∨ o = 7 := by omega
  rcases ho with rfl | rfl | rfl | rfl | rfl | rfl | rfl | rfl <;> (simp [RIn, moveR, moveP, turnP, flip, rot]; omega)
@[reducible] def shiftR (dx dy : Int) (r : Rect) : Rect := ⟨r.x0 + dx, r.y0 + dy, r.x1 + dx, r.y1 + dy⟩
theorem moveR_shift {dx dy : Int} {r : Rect} (h : r.x0 < r.x1 ∧ r.y0 < r.y1) : moveR ⟨0, dx, dy⟩ r = shiftR dx dy r := by
  simp [moveR, moveP, turnP, flip, rot, shiftR]; omega
@[reducible] def joinR (a r : Rect) : Rect := ⟨min a.x0 r.x0, min a.y0 r.y0, max a.x1 r.x1, max a.y1 r.y1⟩
def boxFrom (a : Rect) (xs : List Rect) : Rect := xs.foldl joinR a
def boxL (xs : List Rect) : Rect := boxFrom (gd xs 0) xs
theorem boxFrom_take {a : Rect} {xs : List Rect} {i : Nat} (h : i < xs.length) : boxFrom a (xs.take (i + 1)) = joinR (boxFrom a (xs.take i)) (gd xs i) := by
  rw [List.take_add_one, getG h, boxFrom, boxFrom, List.foldl_append]; rfl
theorem joinR_self (a : Rect) : joinR a a = a := by simp [joinR]
theorem boxFrom_one {xs : List Rect} (h : 0 < xs.length) : boxFrom (gd xs 0) (xs.take 1) = gd xs 0 := by
  rw [boxFrom_take h]; simp [boxFrom, joinR_self]
theorem boxFrom_le (xs : List Rect) : ∀ a : Rect, (boxFrom a xs).x0 ≤ a.x0 ∧ (boxFrom a xs).y0 ≤ a.y0 ∧ a.x1 ≤ (boxFrom a xs).x1 ∧ a.y1 ≤ (boxFrom a xs).y1 ∧ ∀ r ∈ xs, (boxFrom a xs).x0 ≤ r.x0 ∧ (boxFrom a xs).y0 ≤ r.y0 ∧ r.x1 ≤ (boxFrom a xs).x1 ∧ r.y1 ≤ (boxFrom a xs).y1 := by
  induction xs with
  | nil => intro a; exact ⟨Int.le_refl _, Int.le_refl _, Int.le_refl _, Int.le_refl _, fun r hr => by cases hr⟩
  | cons x xs ih =>
    intro a
    obtain ⟨h1, h2, h3, h4, h5⟩ := ih (joinR a x)
    simp only [joinR] at h1 h2 h3 h4
    have e : boxFrom a (x :: xs) = boxFrom (joinR a x) xs := rfl
    rw [e]
    refine ⟨?_, ?_, ?_, ?_, fun r hr => ?_⟩
    · exact Int.le_trans h1 (Int.min_le_left _ _)
    · exact Int.le_trans h2 (Int.min_le_left _ _)
    · exact Int.le_trans (Int.le_max_left _ _) h3
    · exact Int.le_trans (Int.le_max_left _ _) h4
    · rcases List.mem_cons.1 hr with rfl | hr
      · exact ⟨Int.le_trans h1 (Int.min_le_right _ _), Int.le_trans h2 (Int.min_le_right _ _), Int.le_trans (Int.le_max_right _ _) h3, Int.le_trans (Int.le_max_right _ _) h4⟩
      · exact h5 r hr
theorem boxFrom_in {b : Int} : ∀ (xs : List Rect) {a : Rect}, RIn b a → (∀ r ∈ xs, RIn b r) → RIn b (boxFrom a xs)
  | [], _, ha, _ => ha
  | x :: xs, a, ha, h => by
    have hx := h x (.head _)
    refine boxFrom_in xs (a := joinR a x) ?_ fun r hr => h r (.tail _ hr)
    simp only [RIn, joinR] at *; omega
def hashI (h n : Int) : Int := (h * 1000003 + n + 1) % 2147483647
def hashL (h : Int) (l : List Int) : Int := l.foldl hashI h
theorem hashI_bd (h n : Int) : 0 ≤ hashI h n ∧ hashI h n < 2147483647 := ⟨Int.emod_nonneg _ (by omega), Int.emod_lt_of_pos _ (by omega)⟩
theorem hashL_bd {h : Int} : ∀ (l : List Int), 0 ≤ h ∧ h < 2147483647 → 0 ≤ hashL h l ∧ hashL h l < 2147483647 := by
  intro l
  induction l generalizing h with
  | nil => exact fun h => h
  | cons n l ih => exact fun _ => ih (hashI_bd h n)
theorem hashL_take {h : Int} {l : List Int} {i : Nat} (hi : i < l.length) : hashL h (l.take (i + 1)) = hashI (hashL h (l.take i)) (gd l i) := by
  rw [List.take_add_one, getG hi, hashL, hashL, List.foldl_append]; rfl
def hashR (h : Int) (r : Rect) : Int := hashI (hashI (hashI (hashI h (r.x0 + 40)) (r.y0 + 40)) (r.x1 + 40)) (r.y1 + 40)
def hashRs (h : Int) (l : List Rect) : Int := l.foldl hashR h
theorem hashRs_take {h : Int} {l : List Rect} {i : Nat} (hi : i < l.length) : hashRs h (l.take (i + 1)) = hashR (hashRs h (l.take i)) (gd l i) := by
  rw [List.take_add_one, getG hi, hashRs, hashRs, List.foldl_append]; rfl
theorem hashR_bd (h : Int) (r : Rect) : 0 ≤ hashR h r ∧ hashR h r < 2147483647 := hashI_bd _ _
theorem hashRs_bd {h : Int} : ∀ (l : List Rect), 0 ≤ h ∧ h < 2147483647 → 0 ≤ hashRs h l ∧ hashRs h l < 2147483647 := by
  intro l
  induction l generalizing h with
  | nil => exact fun h => h
  | cons n l ih => exact fun _ => ih (hashR_bd h n)
def imgs (xs : List Rect) (o : Int) : List Rect := xs.map (moveR ⟨o, 0, 0⟩)
def shifted (im : List Rect) : List Rect := im.map (shiftR (-40 - (boxL im).x0) (-40 - (boxL im).y0))
def sigO (xs : List Rect) (o : Int) : Int := hashRs 17 (canon (bits (shifted (imgs xs o))))
def sigTo (xs : List Rect) : Nat → Int
  | 0 => sigO xs 0
  | n + 1 => min (sigTo xs n) (sigO xs (n + 1))
theorem sigO_bd (xs : List Rect) (o : Int) : 0 ≤ sigO xs o ∧ sigO xs o < 2147483647 := hashRs_bd _ (by omega)
theorem sigTo_bd (xs : List Rect) : ∀ n, 0 ≤ sigTo xs n ∧ sigTo xs n < 2147483647
  | 0 => sigO_bd xs 0
  | n + 1 => by
    have h1 := sigTo_bd xs n
    have h2 := sigO_bd xs (n + 1)
    simp only [sigTo]; omega
theorem imgs_in {xs : List Rect} {o : Int} (ho : 0 ≤ o ∧ o ≤ 7) (h : ∀ r ∈ xs, RIn 40 r) : ∀ r ∈ imgs xs o, RIn 40 r := by
  intro r hr
  obtain ⟨q, hq, rfl⟩ := List.mem_map.1 hr
  exact moveR_turn ho (h q hq)
theorem boxL_in {im : List Rect} (h0 : 0 < im.length) (h : ∀ r ∈ im, RIn 40 r) : RIn 40 (boxL im) :=
  boxFrom_in im (by rw [gd_eq h0]; exact h _ (List.getElem_mem _)) h
theorem shifted_in {im : List Rect} (h0 : 0 < im.length) (h : ∀ r ∈ im, RIn 40 r) : ∀ r ∈ im, RIn 40 (shiftR (-40 - (boxL im).x0) (-40 - (boxL im).y0) r) := by
  intro r hr
  have h1 := boxL_in h0 h
  have h2 := (boxFrom_le im (gd im 0)).2.2.2.2 r hr
  have h3 := h r hr
  simp only [boxL] at *
  simp only [RIn, shiftR] at *; omega
end Go.Proofs.YtgngpegmaceaiaaGreat
namespace Go.Proofs.YtgngpegmaceaiaaGreat
set_option linter.unusedVariables false
set_option linter.unusedSimpArgs false
open Go
set_option maxRecDepth 20000
set_option linter.unusedSimpArgs false
variable {G : Gh} {L : List Ch} {R : Value → Gh → List Ch → Prop}
theorem turn_s {o : Int} {p : Pt} (ho : 0 ≤ o ∧ o ≤ 7) (hp : InB 1000 p) (k : R (vpt (turnP o p)) G L) : CallT Tryz.prog 250 #[vi o, vpt p] G L R := by
  have hf : InB 1000 (flip o p) := flip_in hp
  obtain ⟨hp1, hp2, hp3, hp4⟩ := hp
  refine CallT.enter (args := _) Tryz.func250 rfl rfl (by kernel_rfl) rfl ?_
  refine WP.seq ?_
  refine WP.region ?_
  refine RG.ot rfl (OT.box (cs := ptT.enc p) rfl rfl rfl fun b3 => ?_)
  refine RG.ot rfl (OT.alloc rfl Zr210 fun b4 => ?_)
  refine RG.nil ?_
  refine WP.cut1 [0, 3, 4] (fun (q : Pt) => q = flip o p) (fun (q : Pt) => []) (fun (q : Pt) => blk b3 210 (ptT.enc q) :: blk b4 210 [vi 0, vi 0] :: L) ?_ ?_
  refine WP.seq ?_
  refine WP.region ?_
  refine RG.pv rfl (PV.mvI (.inl rfl) rfl) ?_
  refine RG.pv rfl (PV.geq rfl rfl rfl) ?_
  refine RG.nil ?_
  refine WP.cond rfl (fun h1 => ?_) (fun h1 => ?_)
  · have h1 := of_decide_eq_true h1
    refine WP.region ?_
    refine RG.pv rfl (PV.field rfl Fo210_1 rfl) ?_
    refine RG.pv rfl (PV.load1 rfl Sc2 rfl (Rd.blk rfl)) ?_
    refine RG.pv rfl (PV.neg rfl rfl (by omega)) ?_
    refine RG.pv rfl (PV.field rfl Fo210_1 rfl) ?_
    refine RG.ot rfl (OT.storeB (vs := [vi _]) (cs' := [_, _]) rfl Sz2 rfl rfl (Cl.c rfl) rfl (OneC.c rfl) rfl rfl ?_)
    refine RG.nil ?_
    exact ⟨rfl, (⟨p.x, -p.y⟩ : Pt), (by rw [flip, if_pos (by omega)]), trivial, ⟨rfl, rfl, rfl, trivial⟩, Cv.p⟩
  · have h1 := of_decide_eq_false h1
    refine WP.skip ?_
    exact ⟨rfl, p, (by rw [flip, if_neg (by omega)]), trivial, ⟨rfl, rfl, rfl, trivial⟩, Cv.p⟩
  rintro q τ1 hq
  refine WP.seq ?_
  refine WP.seq ?_
  refine WP.region ?_
  refine RG.pv rfl (PV.mvI (.inl rfl) rfl) ?_
  refine RG.pv rfl (PV.rem rfl rfl rfl (by omega) (by omega) (by omega)) ?_
  refine RG.pv rfl (PV.mvI (.inr rfl) rfl) ?_
  refine RG.nil ?_
  refine WP.block ?_
  subst hq
  refine WP.loop2 [3, 4] (fun (n : Int) (q : Pt) => (0 ≤ n ∧ n < 4) ∧ rot n.toNat q = turnP o p ∧ InB 1000 q) (fun (n : Int) (q : Pt) => [(5, vi n)]) (fun (n : Int) (q : Pt) => blk b3 210 (ptT.enc q) :: blk b4 210 [vi 0, vi 0] :: L) (fun (n : Int) (q : Pt) => n.toNat) (o % 4) (flip o p) ⟨by omega, rfl, hf⟩ ⟨rfl, trivial⟩ Cv.p ?_
  rintro n q τ ⟨hn, hr, hi1, hi2, hi3, hi4⟩
  refine WP.seq ?_
  refine WP.seq ?_
  refine WP.region ?_
  refine RG.pv rfl (PV.mvI (.inl rfl) rfl) ?_
  refine RG.pv rfl (PV.gtr rfl rfl rfl) ?_
  refine RG.nil ?_
  refine WP.cond rfl (fun h2 => ?_) (fun h2 => ?_)
  · have h2 := of_decide_eq_true h2
    refine WP.skip ?_
    refine WP.seq ?_
    refine WP.block ?_
    refine WP.region ?_
    refine RG.pv rfl (PV.field rfl Fo210_1 rfl) ?_
    refine RG.pv rfl (PV.load1 rfl Sc2 rfl (Rd.blk rfl)) ?_
    refine RG.pv rfl (PV.neg rfl rfl (by omega)) ?_
    refine RG.pv rfl (PV.field rfl Fo210_0 rfl) ?_
    refine RG.pv rfl (PV.load1 rfl Sc2 rfl (Rd.blk rfl)) ?_
    refine RG.pv rfl (PV.build (vs := [(0, [vi _]), (1, [vi _])]) (out := [_, _]) rfl Zr210 Pl210 ⟨rfl, (Cl.c rfl), ⟨rfl, (Cl.c rfl), trivial⟩⟩ rfl) ?_
    refine RG.ot rfl (OT.storeW (vs := [vi _, vi _]) rfl Sz210 rfl rfl (Cl.c rfl) rfl rfl (OneC.c rfl) ?_)
    refine RG.nil ?_
    refine WP.region ?_
    refine RG.pv rfl (PV.mvI (.inl rfl) rfl) ?_
    refine RG.pv rfl (PV.sub rfl rfl rfl (by omega)) ?_
    refine RG.pv rfl (PV.mvI (.inr rfl) rfl) ?_
    refine RG.nil ?_
    refine ⟨rfl, n - 1, ⟨-q.y, q.x⟩, ⟨by omega, ?_, by simp only; omega, by simp only; omega, hi1, hi2⟩, ⟨rfl, trivial⟩, ⟨rfl, rfl, trivial⟩, Cv.p, by omega⟩
    rw [← hr, show n.toNat = (n - 1).toNat + 1 by omega]; rfl
  · have h2 := of_decide_eq_false h2
    have e : turnP o p = q := by rw [← hr, show n.toNat = 0 by omega]; rfl
    rw [e] at k
    refine WP.exit ?_
    refine WP.seq ?_
    refine WP.region ?_
    refine RG.pv rfl (PV.loadW rfl Ag210 rfl rfl) ?_
    refine RG.ot rfl (OT.storeW (vs := [vi _, vi _]) rfl Sz210 rfl rfl (Cl.c rfl) rfl rfl (OneC.c rfl) ?_)
    refine RG.nil ?_
    refine WP.ret ?_
    exact ⟨_, _, ResV.one rfl (RV1.cell rfl Ag210 rfl), Cv.p, k⟩
theorem turn_r {o : Int} {p : Pt} (ho : 0 ≤ o ∧ o ≤ 7) (hp : InB 1000 p) (k : R (vpt (turnP o p)) G L) : CallT Tryz.prog 259 #[vi o, vpt p] G L R := by
  have hf : InB 1000 (flip o p) := flip_in hp
  obtain ⟨hp1, hp2, hp3, hp4⟩ := hp
  refine CallT.enter (args := _) Tryz.func259 rfl rfl (by kernel_rfl) rfl ?_
  refine WP.seq ?_
  refine WP.region ?_
  refine RG.ot rfl (OT.box (cs := ptT.enc p) rfl rfl rfl fun b3 => ?_)
  refine RG.ot rfl (OT.alloc rfl Zr210 fun b4 => ?_)
  refine RG.nil ?_
  refine WP.seq ?_
  refine WP.regionQ (by kernel_rfl) (by kernel_rfl) ?_
  refine RQ.pv rfl (PV.field rfl Fo210_0 rfl) ?_
  refine RQ.pv rfl (PV.load1 rfl Sc2 rfl (Rd.blk rfl)) ?_
  refine RQ.pv rfl (PV.field rfl Fo210_1 rfl) ?_
  refine RQ.pv rfl (PV.load1 rfl Sc2 rfl (Rd.blk rfl)) ?_
  refine RQ.pv rfl (PV.mvI (.inr rfl) rfl) ?_
  refine RQ.pv rfl (PV.mvI (.inr rfl) rfl) ?_
  refine RQ.nil ?_
  refine WP.cut1 [0, 4] (fun (q : Pt) => q = flip o p) (fun (q : Pt) => [(5, vi q.x), (6, vi q.y)]) (fun (q : Pt) => blk b4 210 [vi 0, vi 0] :: L) ?_ ?_
  refine WP.seq ?_
  refine WP.region ?_
  refine RG.pv rfl (PV.mvI (.inl rfl) rfl) ?_
  refine RG.pv rfl (PV.geq rfl rfl rfl) ?_
  refine RG.nil ?_
  refine WP.cond rfl (fun h1 => ?_) (fun h1 => ?_)
  · have h1 := of_decide_eq_true h1
    refine WP.region ?_
    refine RG.pv rfl (PV.mvI (.inl rfl) rfl) ?_
    refine RG.pv rfl (PV.neg rfl rfl (by omega)) ?_
    refine RG.pv rfl (PV.mvI (.inr rfl) rfl) ?_
    refine RG.nil ?_
    exact ⟨rfl, (⟨p.x, -p.y⟩ : Pt), (by rw [flip, if_pos (by omega)]), ⟨rfl, rfl, trivial⟩, ⟨rfl, rfl, trivial⟩, Cv.p⟩
  · have h1 := of_decide_eq_false h1
    refine WP.skip ?_
    exact ⟨rfl, p, (by rw [flip, if_neg (by omega)]), ⟨rfl, rfl, trivial⟩, ⟨rfl, rfl, trivial⟩, Cv.p⟩
  rintro q τ1 hq
  refine WP.seq ?_
  refine WP.seq ?_
  refine WP.region ?_
  refine RG.pv rfl (PV.mvI (.inl rfl) rfl) ?_
  refine RG.pv rfl (PV.rem rfl rfl rfl (by omega) (by omega) (by omega)) ?_
  refine RG.pv rfl (PV.mvI (.inr rfl) rfl) ?_
  refine RG.nil ?_
  refine WP.block ?_
  subst hq
  refine WP.loop2 [4] (fun (n : Int) (q : Pt) => (0 ≤ n ∧ n < 4) ∧ rot n.toNat q = turnP o p ∧ InB 1000 q) (fun (n : Int) (q : Pt) => [(7, vi n), (5, vi q.x), (6, vi q.y)]) (fun (n : Int) (q : Pt) => blk b4 210 [vi 0, vi 0] :: L) (fun (n : Int) (q : Pt) => n.toNat) (o % 4) (flip o p) ⟨by omega, rfl, hf⟩ ⟨rfl, rfl, rfl, trivial⟩ Cv.p ?_
  rintro n q τ ⟨hn, hr, hi1, hi2, hi3, hi4⟩
  refine WP.seq ?_
  refine WP.seq ?_
  refine WP.region ?_
  refine RG.pv rfl (PV.mvI (.inl rfl) rfl) ?_
  refine RG.pv rfl (PV.gtr rfl rfl rfl) ?_
  refine RG.nil ?_
  refine WP.cond rfl (fun h2 => ?_) (fun h2 => ?_)
  · have h2 := of_decide_eq_true h2
    refine WP.skip ?_
    refine WP.seq ?_
    refine WP.block ?_
    refine WP.region ?_
    refine RG.pv rfl (PV.mvI (.inl rfl) rfl) ?_
    refine RG.pv rfl (PV.neg rfl rfl (by omega)) ?_
    refine RG.pv rfl (PV.mvI (.inl rfl) rfl) ?_
    refine RG.pv rfl (PV.mvI (.inr rfl) rfl) ?_
    refine RG.pv rfl (PV.mvI (.inr rfl) rfl) ?_
    refine RG.nil ?_
    refine WP.region ?_
    refine RG.pv rfl (PV.mvI (.inl rfl) rfl) ?_
    refine RG.pv rfl (PV.sub rfl rfl rfl (by omega)) ?_
    refine RG.pv rfl (PV.mvI (.inr rfl) rfl) ?_
    refine RG.nil ?_
    refine ⟨rfl, n - 1, ⟨-q.y, q.x⟩, ⟨by omega, ?_, by simp only; omega, by simp only; omega, hi1, hi2⟩, ⟨rfl, rfl, rfl, trivial⟩, ⟨rfl, trivial⟩, Cv.p, by omega⟩
    rw [← hr, show n.toNat = (n - 1).toNat + 1 by omega]; rfl
  · have h2 := of_decide_eq_false h2
    have e : turnP o p = q := by rw [← hr, show n.toNat = 0 by omega]; rfl
    rw [e] at k
    refine WP.exit ?_
    refine WP.seq ?_
    refine WP.region ?_
    refine RG.pv rfl (PV.mvI (.inl rfl) rfl) ?_
    refine RG.pv rfl (PV.mvI (.inl rfl) rfl) ?_
    refine RG.pv rfl (PV.build (vs := [(0, [vi _]), (1, [vi _])]) (out := [_, _]) rfl Zr210 Pl210 ⟨rfl, (Cl.c rfl), ⟨rfl, (Cl.c rfl), trivial⟩⟩ rfl) ?_
    refine RG.ot rfl (OT.storeW (vs := [vi _, vi _]) rfl Sz210 rfl rfl (Cl.c rfl) rfl rfl (OneC.c rfl) ?_)
    refine RG.nil ?_
    refine WP.ret ?_
    exact ⟨_, _, ResV.one rfl (RV1.cell rfl Ag210 rfl), Cv.p, k⟩
theorem move_s {t : Trans} {p : Pt} (ho : 0 ≤ t.o ∧ t.o ≤ 7) (ht : -1000 ≤ t.x ∧ t.x ≤ 1000 ∧ -1000 ≤ t.y ∧ t.y ≤ 1000) (hp : InB 1000 p) (k : R (vpt (moveP t p)) G L) : CallT Tryz.prog 224 #[vtrans t, vpt p] G L R := by
  obtain ⟨hq1, hq2, hq3, hq4⟩ : InB 1000 (turnP t.o p) := turnP_in hp
  refine CallT.enter (args := _) Tryz.func224 rfl rfl (by kernel_rfl) rfl ?_
  refine WP.seq ?_
  refine WP.region ?_
  refine RG.ot rfl (OT.box (cs := transT.enc t) rfl rfl rfl fun b2 => ?_)
  refine RG.ot rfl (OT.box (cs := ptT.enc p) rfl rfl rfl fun b3 => ?_)
  refine RG.ot rfl (OT.alloc rfl Zr210 fun b4 => ?_)
  refine RG.nil ?_
  refine WP.seq ?_
  refine WP.region ?_
  refine RG.pv rfl (PV.field rfl Fo190_0 rfl) ?_
  refine RG.pv rfl (PV.load1 rfl Sc2 rfl (Rd.blk rfl)) ?_
  refine RG.pv rfl (PV.loadW rfl Ag210 rfl rfl) ?_
  refine RG.callF (vs := [_, _]) rfl rfl En250 rfl (turn_s ho hp ?_)
  refine RG.ot rfl (OT.storeW (vs := [vi _, vi _]) rfl Sz210 rfl rfl (Cl.c rfl) rfl rfl (OneC.c rfl) ?_)
  refine RG.nil ?_
  refine WP.seq ?_
  refine WP.region ?_
  refine RG.pv rfl (PV.field rfl Fo210_0 rfl) ?_
  refine RG.pv rfl (PV.load1 rfl Sc2 rfl (Rd.blk rfl)) ?_
  refine RG.pv rfl (PV.field rfl Fo190_1 rfl) ?_
  refine RG.pv rfl (PV.load1 rfl Sc2 rfl (Rd.blk rfl)) ?_
  refine RG.pv rfl (PV.add rfl rfl rfl (by omega)) ?_
  refine RG.pv rfl (PV.field rfl Fo210_1 rfl) ?_
  refine RG.pv rfl (PV.load1 rfl Sc2 rfl (Rd.blk rfl)) ?_
  refine RG.pv rfl (PV.field rfl Fo190_2 rfl) ?_
  refine RG.pv rfl (PV.load1 rfl Sc2 rfl (Rd.blk rfl)) ?_
  refine RG.pv rfl (PV.add rfl rfl rfl (by omega)) ?_
  refine RG.pv rfl (PV.build (vs := [(0, [vi _]), (1, [vi _])]) (out := [_, _]) rfl Zr210 Pl210 ⟨rfl, (Cl.c rfl), ⟨rfl, (Cl.c rfl), trivial⟩⟩ rfl) ?_
  refine RG.ot rfl (OT.storeW (vs := [vi _, vi _]) rfl Sz210 rfl rfl (Cl.c rfl) rfl rfl (OneC.c rfl) ?_)
  refine RG.nil ?_
  refine WP.ret ?_
  exact ⟨_, _, ResV.one rfl (RV1.cell rfl Ag210 rfl), Cv.p, k⟩
theorem move_r {t : Trans} {p : Pt} (ho : 0 ≤ t.o ∧ t.o ≤ 7) (ht : -1000 ≤ t.x ∧ t.x ≤ 1000 ∧ -1000 ≤ t.y ∧ t.y ≤ 1000) (hp : InB 1000 p) (k : R (vpt (moveP t p)) G L) : CallT Tryz.prog 246 #[vtrans t, vpt p] G L R := by
  obtain ⟨hq1, hq2, hq3, hq4⟩ : InB 1000 (turnP t.o p) := turnP_in hp
  refine CallT.enter (args := _) Tryz.func246 rfl rfl (by kernel_rfl) rfl ?_
  refine WP.seq ?_
  refine WP.region ?_
  refine RG.ot rfl (OT.box (cs := transT.enc t) rfl rfl rfl fun b2 => ?_)
  refine RG.ot rfl (OT.box (cs := ptT.enc p) rfl rfl rfl fun b3 => ?_)
  refine RG.ot rfl (OT.alloc rfl Zr210 fun b4 => ?_)
  refine RG.nil ?_
  refine WP.seq ?_
  refine WP.region ?_
  refine RG.pv rfl (PV.field rfl Fo190_0 rfl) ?_
  refine RG.pv rfl (PV.load1 rfl Sc2 rfl (Rd.blk rfl)) ?_
  refine RG.pv rfl (PV.loadW rfl Ag210 rfl rfl) ?_
  refine RG.callF (vs := [_, _]) rfl rfl En259 rfl (turn_r ho hp ?_)
  refine RG.ot rfl (OT.alloc rfl Zr210 fun b5 => ?_)
  refine RG.ot rfl (OT.storeW (vs := [vi _, vi _]) rfl Sz210 rfl rfl (Cl.c rfl) rfl rfl (OneC.c rfl) ?_)
  refine RG.nil ?_
  refine WP.seq ?_
  refine WP.region ?_
  refine RG.pv rfl (PV.field rfl Fo210_0 rfl) ?_
  refine RG.pv rfl (PV.load1 rfl Sc2 rfl (Rd.blk rfl)) ?_
  refine RG.pv rfl (PV.field rfl Fo190_1 rfl) ?_
  refine RG.pv rfl (PV.load1 rfl Sc2 rfl (Rd.blk rfl)) ?_
  refine RG.pv rfl (PV.add rfl rfl rfl (by omega)) ?_
  refine RG.pv rfl (PV.field rfl Fo210_1 rfl) ?_
  refine RG.pv rfl (PV.load1 rfl Sc2 rfl (Rd.blk rfl)) ?_
  refine RG.pv rfl (PV.field rfl Fo190_2 rfl) ?_
  refine RG.pv rfl (PV.load1 rfl Sc2 rfl (Rd.blk rfl)) ?_
  refine RG.pv rfl (PV.add rfl rfl rfl (by omega)) ?_
  refine RG.pv rfl (PV.build (vs := [(0, [vi _]), (1, [vi _])]) (out := [_, _]) rfl Zr210 Pl210 ⟨rfl, (Cl.c rfl), ⟨rfl, (Cl.c rfl), trivial⟩⟩ rfl) ?_
  refine RG.ot rfl (OT.storeW (vs := [vi _, vi _]) rfl Sz210 rfl rfl (Cl.c rfl) rfl rfl (OneC.c rfl) ?_)
  refine RG.nil ?_
  refine WP.ret ?_
  exact ⟨_, _, ResV.one rfl (RV1.cell rfl Ag210 rfl), Cv.p, k⟩
theorem RIn_pts {r : Rect} (h : RIn 40 r) : InB 1000 ⟨r.x0, r.y0⟩ ∧ InB 1000 ⟨r.x1, r.y1⟩ := by
  obtain ⟨h1, h2, h3, h4, h5, h6⟩ := h
  exact ⟨⟨by simp only; omega, by simp only; omega, by simp only; omega, by simp only; omega⟩, ⟨by simp only; omega, by simp only; omega, by simp only; omega, by simp only; omega⟩⟩
theorem moveRect_s {t : Trans} {r : Rect} (ho : 0 ≤ t.o ∧ t.o ≤ 7) (ht : -1000 ≤ t.x ∧ t.x ≤ 1000 ∧ -1000 ≤ t.y ∧ t.y ≤ 1000) (hr : RIn 40 r) (k : R (vrect (moveR t r)) G L) : CallT Tryz.prog 183 #[vtrans t, vrect r] G L R := by
  refine CallT.enter (args := _) Tryz.func183 rfl rfl (by kernel_rfl) rfl ?_
  refine WP.seq ?_
  refine WP.region ?_
  refine RG.ot rfl (OT.box (cs := transT.enc t) rfl rfl rfl fun b2 => ?_)
  refine RG.ot rfl (OT.box (cs := rectT.enc r) rfl rfl rfl fun b3 => ?_)
  refine RG.ot rfl (OT.alloc rfl Zr101 fun b4 => ?_)
  refine RG.nil ?_
  refine WP.cut2 [4] (fun (b5 b6 : Nat) => True) (fun (b5 b6 : Nat) => [(5, .pointer (some ⟨b5, 0, none⟩)), (6, .pointer (some ⟨b6, 0, none⟩))]) (fun (b5 b6 : Nat) => blk b5 210 (ptT.enc (moveP t ⟨r.x0, r.y0⟩)) :: blk b6 210 (ptT.enc (moveP t ⟨r.x1, r.y1⟩)) :: blk b4 101 [vi 0, vi 0, vi 0, vi 0] :: L) ?_ ?_
  refine WP.regionH0 (.q 0 (.q 1 (.q 2 (.q 3 (.q 4 (.q 5 (.q 7 (.q 8 (.q 9 (.q 10 (.q 11 (.q 12 (.c 6 (.c 13 (.b 14 (.l 15 (.l 16 (.l 17 Sch.nil))) 15 (.l 14 (.l 16 (.l 17 Sch.nil)))) 14 (.b 13 (.l 15 (.l 16 (.l 17 Sch.nil))) 15 (.l 13 (.l 16 (.l 17 Sch.nil)))) 15 (.b 13 (.l 14 (.l 16 (.l 17 Sch.nil))) 14 (.l 13 (.l 16 (.l 17 Sch.nil))))) 14 (.b 6 (.b 13 (.l 15 (.l 16 (.l 17 Sch.nil))) 15 (.l 13 (.l 16 (.l 17 Sch.nil)))) 15 (.l 6 (.l 13 (.l 16 (.l 17 Sch.nil))))) 15 (.b 6 (.b 13 (.l 14 (.l 16 (.l 17 Sch.nil))) 14 (.l 13 (.l 16 (.l 17 Sch.nil)))) 14 (.l 6 (.l 13 (.l 16 (.l 17 Sch.nil)))))))))))))))))) (by kernel_rfl) (by kernel_rfl) (by kernel_rfl) rfl ?_
  refine RH.pv rfl (fun _ _ _ _ h => h) (Gh.le_refl _) PickC.pick rfl (PV.loadW rfl Ag190 rfl rfl) ?_
  refine RH.pv rfl (fun _ _ _ _ h => h) (Gh.le_refl _) PickC.pick rfl (PV.field rfl Fo101_0 rfl) ?_
  refine RH.pv rfl (fun _ _ _ _ h => h) (Gh.le_refl _) PickC.pick rfl (PV.load1 rfl Sc2 rfl (Rd.blk rfl)) ?_
  refine RH.pv rfl (fun _ _ _ _ h => h) (Gh.le_refl _) PickC.pick rfl (PV.field rfl Fo101_1 rfl) ?_
  refine RH.pv rfl (fun _ _ _ _ h => h) (Gh.le_refl _) PickC.pick rfl (PV.load1 rfl Sc2 rfl (Rd.blk rfl)) ?_
  refine RH.pv rfl (fun _ _ _ _ h => h) (Gh.le_refl _) PickC.pick rfl (PV.build (vs := [(0, [vi _]), (1, [vi _])]) (out := [_, _]) rfl Zr210 Pl210 ⟨rfl, (Cl.c rfl), ⟨rfl, (Cl.c rfl), trivial⟩⟩ rfl) ?_
  refine RH.pv rfl (fun _ _ _ _ h => h) (Gh.le_refl _) PickC.pick rfl (PV.loadW rfl Ag190 rfl rfl) ?_
  refine RH.pv rfl (fun _ _ _ _ h => h) (Gh.le_refl _) PickC.pick rfl (PV.field rfl Fo101_2 rfl) ?_
  refine RH.pv rfl (fun _ _ _ _ h => h) (Gh.le_refl _) PickC.pick rfl (PV.load1 rfl Sc2 rfl (Rd.blk rfl)) ?_
  refine RH.pv rfl (fun _ _ _ _ h => h) (Gh.le_refl _) PickC.pick rfl (PV.field rfl Fo101_3 rfl) ?_
  refine RH.pv rfl (fun _ _ _ _ h => h) (Gh.le_refl _) PickC.pick rfl (PV.load1 rfl Sc2 rfl (Rd.blk rfl)) ?_
  refine RH.pv rfl (fun _ _ _ _ h => h) (Gh.le_refl _) PickC.pick rfl (PV.build (vs := [(0, [vi _]), (1, [vi _])]) (out := [_, _]) rfl Zr210 Pl210 ⟨rfl, (Cl.c rfl), ⟨rfl, (Cl.c rfl), trivial⟩⟩ rfl) ?_
  · refine RH.ot3 rfl rfl rfl rfl rfl rfl  (OT.callF (vs := [_, _]) rfl En224 rfl (move_s (p := ⟨_, _⟩) ho ht (by first | exact (RIn_pts hr).1 | exact (RIn_pts hr).2) ⟨Gh.le_refl _, PickC.pick, ?_⟩)) (OT.alloc rfl Zr210 fun b5 => ⟨Gh.le_refl _, PickC.pick, ?_⟩) (OT.alloc rfl Zr210 fun b6 => ⟨Gh.le_refl _, PickC.pick, ?_⟩)
    · refine RH.ot3 rfl rfl rfl rfl rfl rfl  (OT.callF (vs := [_, _]) rfl En224 rfl (move_s (p := ⟨_, _⟩) ho ht (by first | exact (RIn_pts hr).1 | exact (RIn_pts hr).2) ⟨Gh.le_refl _, PickC.pick, ?_⟩)) (OT.alloc rfl Zr210 fun b5 => ⟨Gh.le_refl _, PickC.pick, ?_⟩) (OT.alloc rfl Zr210 fun b6 => ⟨Gh.le_refl _, PickC.pick, ?_⟩)
      · refine RH.ot2 rfl rfl rfl rfl  (OT.alloc rfl Zr210 fun b5 => ⟨Gh.le_refl _, PickC.pick, ?_⟩) (OT.alloc rfl Zr210 fun b6 => ⟨Gh.le_refl _, PickC.pick, ?_⟩)
        · refine RH.ot rfl rfl (OT.alloc rfl Zr210 fun b6 => ⟨Gh.le_refl _, PickC.pick, ?_⟩)
          refine RH.ot rfl rfl (OT.storeW (vs := [vi _, vi _]) rfl Sz210 rfl rfl (Cl.c rfl) rfl rfl (OneC.c rfl) ⟨Gh.le_refl _, PickC.pick, ?_⟩)
          refine RH.ot rfl rfl (OT.storeW (vs := [vi _, vi _]) rfl Sz210 rfl rfl (Cl.c rfl) rfl rfl (OneC.c rfl) ⟨Gh.le_refl _, PickC.pick, ?_⟩)
          refine RH.nil ?_
          exact ⟨rfl, b5, b6, trivial, ⟨rfl, rfl, trivial⟩, ⟨rfl, trivial⟩, Cv.p⟩
        · refine RH.ot rfl rfl (OT.alloc rfl Zr210 fun b5 => ⟨Gh.le_refl _, PickC.pick, ?_⟩)
          refine RH.ot rfl rfl (OT.storeW (vs := [vi _, vi _]) rfl Sz210 rfl rfl (Cl.c rfl) rfl rfl (OneC.c rfl) ⟨Gh.le_refl _, PickC.pick, ?_⟩)
          refine RH.ot rfl rfl (OT.storeW (vs := [vi _, vi _]) rfl Sz210 rfl rfl (Cl.c rfl) rfl rfl (OneC.c rfl) ⟨Gh.le_refl _, PickC.pick, ?_⟩)
          refine RH.nil ?_
          exact ⟨rfl, b5, b6, trivial, ⟨rfl, rfl, trivial⟩, ⟨rfl, trivial⟩, Cv.p⟩
      · refine RH.ot2 rfl rfl rfl rfl  (OT.callF (vs := [_, _]) rfl En224 rfl (move_s (p := ⟨_, _⟩) ho ht (by first | exact (RIn_pts hr).1 | exact (RIn_pts hr).2) ⟨Gh.le_refl _, PickC.pick, ?_⟩)) (OT.alloc rfl Zr210 fun b6 => ⟨Gh.le_refl _, PickC.pick, ?_⟩)
        · refine RH.ot rfl rfl (OT.alloc rfl Zr210 fun b6 => ⟨Gh.le_refl _, PickC.pick, ?_⟩)
          refine RH.ot rfl rfl (OT.storeW (vs := [vi _, vi _]) rfl Sz210 rfl rfl (Cl.c rfl) rfl rfl (OneC.c rfl) ⟨Gh.le_refl _, PickC.pick, ?_⟩)
          refine RH.ot rfl rfl (OT.storeW (vs := [vi _, vi _]) rfl Sz210 rfl rfl (Cl.c rfl) rfl rfl (OneC.c rfl) ⟨Gh.le_refl _, PickC.pick, ?_⟩)
          refine RH.nil ?_
          exact ⟨rfl, b5, b6, trivial, ⟨rfl, rfl, trivial⟩, ⟨rfl, trivial⟩, Cv.p⟩
        · refine RH.ot rfl rfl (OT.callF (vs := [_, _]) rfl En224 rfl (move_s (p := ⟨_, _⟩) ho ht (by first | exact (RIn_pts hr).1 | exact (RIn_pts hr).2) ⟨Gh.le_refl _, PickC.pick, ?_⟩))
          refine RH.ot rfl rfl (OT.storeW (vs := [vi _, vi _]) rfl Sz210 rfl rfl (Cl.c rfl) rfl rfl (OneC.c rfl) ⟨Gh.le_refl _, PickC.pick, ?_⟩)
          refine RH.ot rfl rfl (OT.storeW (vs := [vi _, vi _]) rfl Sz210 rfl rfl (Cl.c rfl) rfl rfl (OneC.c rfl) ⟨Gh.le_refl _, PickC.pick, ?_⟩)
          refine RH.nil ?_
          exact ⟨rfl, b5, b6, trivial, ⟨rfl, rfl, trivial⟩, ⟨rfl, trivial⟩, Cv.p⟩
      · refine RH.ot2 rfl rfl rfl rfl  (OT.callF (vs := [_, _]) rfl En224 rfl (move_s (p := ⟨_, _⟩) ho ht (by first | exact (RIn_pts hr).1 | exact (RIn_pts hr).2) ⟨Gh.le_refl _, PickC.pick, ?_⟩)) (OT.alloc rfl Zr210 fun b5 => ⟨Gh.le_refl _, PickC.pick, ?_⟩)
        · refine RH.ot rfl rfl (OT.alloc rfl Zr210 fun b5 => ⟨Gh.le_refl _, PickC.pick, ?_⟩)
          refine RH.ot rfl rfl (OT.storeW (vs := [vi _, vi _]) rfl Sz210 rfl rfl (Cl.c rfl) rfl rfl (OneC.c rfl) ⟨Gh.le_refl _, PickC.pick, ?_⟩)
          refine RH.ot rfl rfl (OT.storeW (vs := [vi _, vi _]) rfl Sz210 rfl rfl (Cl.c rfl) rfl rfl (OneC.c rfl) ⟨Gh.le_refl _, PickC.pick, ?_⟩)
          refine RH.nil ?_
          exact ⟨rfl, b5, b6, trivial, ⟨rfl, rfl, trivial⟩, ⟨rfl, trivial⟩, Cv.p⟩
        · refine RH.ot rfl rfl (OT.callF (vs := [_, _]) rfl En224 rfl (move_s (p := ⟨_, _⟩) ho ht (by first | exact (RIn_pts hr).1 | exact (RIn_pts hr).2) ⟨Gh.le_refl _, PickC.pick, ?_⟩))
          refine RH.ot rfl rfl (OT.storeW (vs := [vi _, vi _]) rfl Sz210 rfl rfl (Cl.c rfl) rfl rfl (OneC.c rfl) ⟨Gh.le_refl _, PickC.pick, ?_⟩)
          refine RH.ot rfl rfl (OT.storeW (vs := [vi _, vi _]) rfl Sz210 rfl rfl (Cl.c rfl) rfl rfl (OneC.c rfl) ⟨Gh.le_refl _, PickC.pick, ?_⟩)
          refine RH.nil ?_
          exact ⟨rfl, b5, b6, trivial, ⟨rfl, rfl, trivial⟩, ⟨rfl, trivial⟩, Cv.p⟩
    · refine RH.ot2 rfl rfl rfl rfl  (OT.callF (vs := [_, _]) rfl En224 rfl (move_s (p := ⟨_, _⟩) ho ht (by first | exact (RIn_pts hr).1 | exact (RIn_pts hr).2) ⟨Gh.le_refl _, PickC.pick, ?_⟩)) (OT.alloc rfl Zr210 fun b6 => ⟨Gh.le_refl _, PickC.pick, ?_⟩)
      · refine RH.ot2 rfl rfl rfl rfl  (OT.callF (vs := [_, _]) rfl En224 rfl (move_s (p := ⟨_, _⟩) ho ht (by first | exact (RIn_pts hr).1 | exact (RIn_pts hr).2) ⟨Gh.le_refl _, PickC.pick, ?_⟩)) (OT.alloc rfl Zr210 fun b6 => ⟨Gh.le_refl _, PickC.pick, ?_⟩)
        · refine RH.ot rfl rfl (OT.alloc rfl Zr210 fun b6 => ⟨Gh.le_refl _, PickC.pick, ?_⟩)
          refine RH.ot rfl rfl (OT.storeW (vs := [vi _, vi _]) rfl Sz210 rfl rfl (Cl.c rfl) rfl rfl (OneC.c rfl) ⟨Gh.le_refl _, PickC.pick, ?_⟩)
          refine RH.ot rfl rfl (OT.storeW (vs := [vi _, vi _]) rfl Sz210 rfl rfl (Cl.c rfl) rfl rfl (OneC.c rfl) ⟨Gh.le_refl _, PickC.pick, ?_⟩)
          refine RH.nil ?_
          exact ⟨rfl, b5, b6, trivial, ⟨rfl, rfl, trivial⟩, ⟨rfl, trivial⟩, Cv.p⟩
        · refine RH.ot rfl rfl (OT.callF (vs := [_, _]) rfl En224 rfl (move_s (p := ⟨_, _⟩) ho ht (by first | exact (RIn_pts hr).1 | exact (RIn_pts hr).2) ⟨Gh.le_refl _, PickC.pick, ?_⟩))
          refine RH.ot rfl rfl (OT.storeW (vs := [vi _, vi _]) rfl Sz210 rfl rfl (Cl.c rfl) rfl rfl (OneC.c rfl) ⟨Gh.le_refl _, PickC.pick, ?_⟩)
          refine RH.ot rfl rfl (OT.storeW (vs := [vi _, vi _]) rfl Sz210 rfl rfl (Cl.c rfl) rfl rfl (OneC.c rfl) ⟨Gh.le_refl _, PickC.pick, ?_⟩)
          refine RH.nil ?_
          exact ⟨rfl, b5, b6, trivial, ⟨rfl, rfl, trivial⟩, ⟨rfl, trivial⟩, Cv.p⟩
      · refine RH.ot rfl rfl (OT.callF (vs := [_, _]) rfl En224 rfl (move_s (p := ⟨_, _⟩) ho ht (by first | exact (RIn_pts hr).1 | exact (RIn_pts hr).2) ⟨Gh.le_refl _, PickC.pick, ?_⟩))
        refine RH.ot rfl rfl (OT.callF (vs := [_, _]) rfl En224 rfl (move_s (p := ⟨_, _⟩) ho ht (by first | exact (RIn_pts hr).1 | exact (RIn_pts hr).2) ⟨Gh.le_refl _, PickC.pick, ?_⟩))
        refine RH.ot rfl rfl (OT.storeW (vs := [vi _, vi _]) rfl Sz210 rfl rfl (Cl.c rfl) rfl rfl (OneC.c rfl) ⟨Gh.le_refl _, PickC.pick, ?_⟩)
        refine RH.ot rfl rfl (OT.storeW (vs := [vi _, vi _]) rfl Sz210 rfl rfl (Cl.c rfl) rfl rfl (OneC.c rfl) ⟨Gh.le_refl _, PickC.pick, ?_⟩)
        refine RH.nil ?_
        exact ⟨rfl, b5, b6, trivial, ⟨rfl, rfl, trivial⟩, ⟨rfl, trivial⟩, Cv.p⟩
    · refine RH.ot2 rfl rfl rfl rfl  (OT.callF (vs := [_, _]) rfl En224 rfl (move_s (p := ⟨_, _⟩) ho ht (by first | exact (RIn_pts hr).1 | exact (RIn_pts hr).2) ⟨Gh.le_refl _, PickC.pick, ?_⟩)) (OT.alloc rfl Zr210 fun b5 => ⟨Gh.le_refl _, PickC.pick, ?_⟩)
      · refine RH.ot2 rfl rfl rfl rfl  (OT.callF (vs := [_, _]) rfl En224 rfl (move_s (p := ⟨_, _⟩) ho ht (by first | exact (RIn_pts hr).1 | exact (RIn_pts hr).2) ⟨Gh.le_refl _, PickC.pick, ?_⟩)) (OT.alloc rfl Zr210 fun b5 => ⟨Gh.le_refl _, PickC.pick, ?_⟩)
        · refine RH.ot rfl rfl (OT.alloc rfl Zr210 fun b5 => ⟨Gh.le_refl _, PickC.pick, ?_⟩)
          refine RH.ot rfl rfl (OT.storeW (vs := [vi _, vi _]) rfl Sz210 rfl rfl (Cl.c rfl) rfl rfl (OneC.c rfl) ⟨Gh.le_refl _, PickC.pick, ?_⟩)
          refine RH.ot rfl rfl (OT.storeW (vs := [vi _, vi _]) rfl Sz210 rfl rfl (Cl.c rfl) rfl rfl (OneC.c rfl) ⟨Gh.le_refl _, PickC.pick, ?_⟩)
          refine RH.nil ?_
          exact ⟨rfl, b5, b6, trivial, ⟨rfl, rfl, trivial⟩, ⟨rfl, trivial⟩, Cv.p⟩
        · refine RH.ot rfl rfl (OT.callF (vs := [_, _]) rfl En224 rfl (move_s (p := ⟨_, _⟩) ho ht (by first | exact (RIn_pts hr).1 | exact (RIn_pts hr).2) ⟨Gh.le_refl _, PickC.pick, ?_⟩))
          refine RH.ot rfl rfl (OT.storeW (vs := [vi _, vi _]) rfl Sz210 rfl rfl (Cl.c rfl) rfl rfl (OneC.c rfl) ⟨Gh.le_refl _, PickC.pick, ?_⟩)
          refine RH.ot rfl rfl (OT.storeW (vs := [vi _, vi _]) rfl Sz210 rfl rfl (Cl.c rfl) rfl rfl (OneC.c rfl) ⟨Gh.le_refl _, PickC.pick, ?_⟩)
          refine RH.nil ?_
          exact ⟨rfl, b5, b6, trivial, ⟨rfl, rfl, trivial⟩, ⟨rfl, trivial⟩, Cv.p⟩
      · refine RH.ot rfl rfl (OT.callF (vs := [_, _]) rfl En224 rfl (move_s (p := ⟨_, _⟩) ho ht (by first | exact (RIn_pts hr).1 | exact (RIn_pts hr).2) ⟨Gh.le_refl _, PickC.pick, ?_⟩))
        refine RH.ot rfl rfl (OT.callF (vs := [_, _]) rfl En224 rfl (move_s (p := ⟨_, _⟩) ho ht (by first | exact (RIn_pts hr).1 | exact (RIn_pts hr).2) ⟨Gh.le_refl _, PickC.pick, ?_⟩))
        refine RH.ot rfl rfl (OT.storeW (vs := [vi _, vi _]) rfl Sz210 rfl rfl (Cl.c rfl) rfl rfl (OneC.c rfl) ⟨Gh.le_refl _, PickC.pick, ?_⟩)
        refine RH.ot rfl rfl (OT.storeW (vs := [vi _, vi _]) rfl Sz210 rfl rfl (Cl.c rfl) rfl rfl (OneC.c rfl) ⟨Gh.le_refl _, PickC.pick, ?_⟩)
        refine RH.nil ?_
        exact ⟨rfl, b5, b6, trivial, ⟨rfl, rfl, trivial⟩, ⟨rfl, trivial⟩, Cv.p⟩
  · rintro b5 b6 τ1 -
    refine WP.seq ?_
    refine WP.region ?_
    refine RG.pv rfl (PV.field rfl Fo210_0 rfl) ?_
    refine RG.pv rfl (PV.load1 rfl Sc2 rfl (Rd.blk rfl)) ?_
    refine RG.pv rfl (PV.field rfl Fo210_0 rfl) ?_
    refine RG.pv rfl (PV.load1 rfl Sc2 rfl (Rd.blk rfl)) ?_
    refine RG.pv rfl (PV.min2 rfl rfl rfl) ?_
    refine RG.pv rfl (PV.field rfl Fo210_1 rfl) ?_
    refine RG.pv rfl (PV.load1 rfl Sc2 rfl (Rd.blk rfl)) ?_
    refine RG.pv rfl (PV.field rfl Fo210_1 rfl) ?_
    refine RG.pv rfl (PV.load1 rfl Sc2 rfl (Rd.blk rfl)) ?_
    refine RG.pv rfl (PV.min2 rfl rfl rfl) ?_
    refine RG.pv rfl (PV.field rfl Fo210_0 rfl) ?_
    refine RG.pv rfl (PV.load1 rfl Sc2 rfl (Rd.blk rfl)) ?_
    refine RG.pv rfl (PV.field rfl Fo210_0 rfl) ?_
    refine RG.pv rfl (PV.load1 rfl Sc2 rfl (Rd.blk rfl)) ?_
    refine RG.pv rfl (PV.max2 rfl rfl rfl) ?_
    refine RG.pv rfl (PV.field rfl Fo210_1 rfl) ?_
    refine RG.pv rfl (PV.load1 rfl Sc2 rfl (Rd.blk rfl)) ?_
    refine RG.pv rfl (PV.field rfl Fo210_1 rfl) ?_
    refine RG.pv rfl (PV.load1 rfl Sc2 rfl (Rd.blk rfl)) ?_
    refine RG.pv rfl (PV.max2 rfl rfl rfl) ?_
    refine RG.pv rfl (PV.build (vs := [(0, [vi _]), (1, [vi _]), (2, [vi _]), (3, [vi _])]) (out := [_, _, _, _]) rfl Zr101 Pl101 ⟨rfl, (Cl.c rfl), ⟨rfl, (Cl.c rfl), ⟨rfl, (Cl.c rfl), ⟨rfl, (Cl.c rfl), trivial⟩⟩⟩⟩ rfl) ?_
    refine RG.ot rfl (OT.storeW (vs := [vi _, vi _, vi _, vi _]) rfl Sz101 rfl rfl (Cl.c rfl) rfl rfl (OneC.c rfl) ?_)
    refine RG.nil ?_
    refine WP.ret ?_
    exact ⟨_, _, ResV.one rfl (RV1.cell rfl Ag101 rfl), Cv.p, k⟩
theorem moveRect_r {t : Trans} {r : Rect} (ho : 0 ≤ t.o ∧ t.o ≤ 7) (ht : -1000 ≤ t.x ∧ t.x ≤ 1000 ∧ -1000 ≤ t.y ∧ t.y ≤ 1000) (hr : RIn 40 r) (k : R (vrect (moveR t r)) G L) : CallT Tryz.prog 220 #[vtrans t, vrect r] G L R := by
  refine CallT.enter (args := _) Tryz.func220 rfl rfl (by kernel_rfl) rfl ?_
  refine WP.seq ?_
  refine WP.region ?_
  refine RG.ot rfl (OT.box (cs := transT.enc t) rfl rfl rfl fun b2 => ?_)
  refine RG.ot rfl (OT.box (cs := rectT.enc r) rfl rfl rfl fun b3 => ?_)
  refine RG.ot rfl (OT.alloc rfl Zr101 fun b4 => ?_)
  refine RG.nil ?_
  refine WP.seq ?_
  refine WP.region ?_
  refine RG.pv rfl (PV.loadW rfl Ag190 rfl rfl) ?_
  refine RG.pv rfl (PV.field rfl Fo101_0 rfl) ?_
  refine RG.pv rfl (PV.load1 rfl Sc2 rfl (Rd.blk rfl)) ?_
  refine RG.pv rfl (PV.field rfl Fo101_1 rfl) ?_
  refine RG.pv rfl (PV.load1 rfl Sc2 rfl (Rd.blk rfl)) ?_
  refine RG.pv rfl (PV.build (vs := [(0, [vi _]), (1, [vi _])]) (out := [_, _]) rfl Zr210 Pl210 ⟨rfl, (Cl.c rfl), ⟨rfl, (Cl.c rfl), trivial⟩⟩ rfl) ?_
  refine RG.callF (vs := [_, _]) rfl rfl En246 rfl (move_r (p := ⟨_, _⟩) ho ht (by first | exact (RIn_pts hr).1 | exact (RIn_pts hr).2) ?_)
  refine RG.ot rfl (OT.alloc rfl Zr210 fun b5 => ?_)
  refine RG.ot rfl (OT.storeW (vs := [vi _, vi _]) rfl Sz210 rfl rfl (Cl.c rfl) rfl rfl (OneC.c rfl) ?_)
  refine RG.nil ?_
  refine WP.seq ?_
  refine WP.region ?_
  refine RG.pv rfl (PV.loadW rfl Ag190 rfl rfl) ?_
  refine RG.pv rfl (PV.field rfl Fo101_2 rfl) ?_
  refine RG.pv rfl (PV.load1 rfl Sc2 rfl (Rd.blk rfl)) ?_
  refine RG.pv rfl (PV.field rfl Fo101_3 rfl) ?_
  refine RG.pv rfl (PV.load1 rfl Sc2 rfl (Rd.blk rfl)) ?_
  refine RG.pv rfl (PV.build (vs := [(0, [vi _]), (1, [vi _])]) (out := [_, _]) rfl Zr210 Pl210 ⟨rfl, (Cl.c rfl), ⟨rfl, (Cl.c rfl), trivial⟩⟩ rfl) ?_
  refine RG.callF (vs := [_, _]) rfl rfl En246 rfl (move_r (p := ⟨_, _⟩) ho ht (by first | exact (RIn_pts hr).1 | exact (RIn_pts hr).2) ?_)
  refine RG.ot rfl (OT.alloc rfl Zr210 fun b6 => ?_)
  refine RG.ot rfl (OT.storeW (vs := [vi _, vi _]) rfl Sz210 rfl rfl (Cl.c rfl) rfl rfl (OneC.c rfl) ?_)
  refine RG.nil ?_
  refine WP.seq ?_
  refine WP.region ?_
  refine RG.pv rfl (PV.field rfl Fo210_0 rfl) ?_
  refine RG.pv rfl (PV.load1 rfl Sc2 rfl (Rd.blk rfl)) ?_
  refine RG.pv rfl (PV.field rfl Fo210_0 rfl) ?_
  refine RG.pv rfl (PV.load1 rfl Sc2 rfl (Rd.blk rfl)) ?_
  refine RG.pv rfl (PV.min2 rfl rfl rfl) ?_
  refine RG.pv rfl (PV.field rfl Fo210_1 rfl) ?_
  refine RG.pv rfl (PV.load1 rfl Sc2 rfl (Rd.blk rfl)) ?_
  refine RG.pv rfl (PV.field rfl Fo210_1 rfl) ?_
  refine RG.pv rfl (PV.load1 rfl Sc2 rfl (Rd.blk rfl)) ?_
  refine RG.pv rfl (PV.min2 rfl rfl rfl) ?_
  refine RG.pv rfl (PV.field rfl Fo210_0 rfl) ?_
  refine RG.pv rfl (PV.load1 rfl Sc2 rfl (Rd.blk rfl)) ?_
  refine RG.pv rfl (PV.field rfl Fo210_0 rfl) ?_
  refine RG.pv rfl (PV.load1 rfl Sc2 rfl (Rd.blk rfl)) ?_
  refine RG.pv rfl (PV.max2 rfl rfl rfl) ?_
  refine RG.pv rfl (PV.field rfl Fo210_1 rfl) ?_
  refine RG.pv rfl (PV.load1 rfl Sc2 rfl (Rd.blk rfl)) ?_
  refine RG.pv rfl (PV.field rfl Fo210_1 rfl) ?_
  refine RG.pv rfl (PV.load1 rfl Sc2 rfl (Rd.blk rfl)) ?_
  refine RG.pv rfl (PV.max2 rfl rfl rfl) ?_
  refine RG.pv rfl (PV.build (vs := [(0, [vi _]), (1, [vi _]), (2, [vi _]), (3, [vi _])]) (out := [_, _, _, _]) rfl Zr101 Pl101 ⟨rfl, (Cl.c rfl), ⟨rfl, (Cl.c rfl), ⟨rfl, (Cl.c rfl), ⟨rfl, (Cl.c rfl), trivial⟩⟩⟩⟩ rfl) ?_
  refine RG.ot rfl (OT.storeW (vs := [vi _, vi _, vi _, vi _]) rfl Sz101 rfl rfl (Cl.c rfl) rfl rfl (OneC.c rfl) ?_)
  refine RG.nil ?_
  refine WP.ret ?_
  exact ⟨_, _, ResV.one rfl (RV1.cell rfl Ag101 rfl), Cv.p, k⟩
end Go.Proofs.YtgngpegmaceaiaaGreat
namespace Go.Proofs.YtgngpegmaceaiaaGreat
set_option linter.unusedVariables false
set_option linter.unusedSimpArgs false
open Go
set_option maxRecDepth 20000
set_option linter.unusedSimpArgs false
variable {G : Gh} {L : List Ch} {R : Value → Gh → List Ch → Prop}
theorem RIn_valid {r : Rect} : validRect r = true ↔ RIn 40 r := by simp [validRect, RIn]; omega
theorem RIn_all {xs : List Rect} (h : isReg xs = true) : ∀ r ∈ xs, RIn 40 r := by
  have := isReg_valid h
  simp only [validRs, Bool.and_eq_true, List.all_eq_true] at this
  exact fun r hr => RIn_valid.1 (this.2 r hr)
theorem RIn_gd {b : Int} {xs : List Rect} (h : ∀ r ∈ xs, RIn b r) {i : Nat} (hi : i < xs.length) : RIn b (gd xs i) := by rw [gd_eq hi]; exact h _ (List.getElem_mem _)
theorem boxOf_s {v : Value} {xs : List Rect} (h1 : Rs G L rectT v xs) (h0 : 0 < xs.length) (k : R (vrect (boxL xs)) G L) : CallT Tryz.prog 184 #[v] G L R := by
  refine CallT.bd h1 fun hb => ?_
  refine CallT.enter (args := _) Tryz.func184 rfl rfl (by kernel_rfl) rfl ?_
  refine WP.seq ?_
  refine WP.region ?_
  refine RG.ot rfl (OT.alloc rfl Zr101 fun b2 => ?_)
  refine RG.nil ?_
  refine WP.seq ?_
  refine WP.region ?_
  refine RG.pv rfl (PV.move (v := v) rfl rfl) ?_
  refine RG.pv rfl (PV.idxS (j := 0) (v := v) rfl Is35 rfl (SlF.r h1) rfl (by omega) (by omega)) ?_
  refine RG.pv rfl (PV.loadE rfl Ag101 rfl rfl (El.r h1 (getG (by omega)))) ?_
  refine RG.ot rfl (OT.alloc rfl Zr101 fun b3 => ?_)
  refine RG.ot rfl (OT.storeW (vs := [vi _, vi _, vi _, vi _]) rfl Sz101 rfl rfl (Cl.c rfl) rfl rfl (OneC.c rfl) ?_)
  refine RG.nil ?_
  refine WP.seq ?_
  refine WP.seq ?_
  refine WP.region ?_
  refine RG.pv rfl (PV.move (v := v) rfl rfl) ?_
  refine RG.pv rfl (PV.len (v := v) rfl Tryz.underlying35 rfl (SlF.r h1)) ?_
  refine RG.pv rfl (PV.mvI (.inl rfl) rfl) ?_
  refine RG.nil ?_
  refine WP.block ?_
  refine WP.loop2 [2, 3, 9, 10] (fun (i : Nat) (a : Rect) => i ≤ xs.length ∧ a = boxFrom (gd xs 0) (xs.take i)) (fun (i : Nat) (a : Rect) => [(11, vi i)]) (fun (i : Nat) (a : Rect) => blk b3 101 (rectT.enc a) :: blk b2 101 [vi 0, vi 0, vi 0, vi 0] :: L) (fun (i : Nat) (a : Rect) => xs.length - i) 0 (gd xs 0) ⟨by omega, rfl⟩ ⟨rfl, trivial⟩ Cv.p ?_
  rintro i a τ ⟨hi, ha⟩
  refine WP.seq ?_
  refine WP.region ?_
  refine RG.pv rfl (PV.lss rfl rfl rfl) ?_
  refine RG.nil ?_
  refine WP.seq ?_
  refine WP.cond rfl (fun h2 => ?_) (fun h2 => ?_)
  · have h2 := of_decide_eq_true h2
    refine WP.skip ?_
    refine WP.seq ?_
    refine WP.block ?_
    refine WP.seq ?_
    refine WP.region ?_
    refine RG.pv rfl (PV.idxS (v := v) rfl Is35 rfl (SlF.r h1) rfl rfl (by omega)) ?_
    refine RG.pv rfl (PV.loadE rfl Ag101 rfl rfl (El.r h1 (getG (by omega)))) ?_
    refine RG.ot rfl (OT.alloc rfl Zr101 fun b5 => ?_)
    refine RG.ot rfl (OT.storeW (vs := [vi _, vi _, vi _, vi _]) rfl Sz101 rfl rfl (Cl.c rfl) rfl rfl (OneC.c rfl) ?_)
    refine RG.nil ?_
    refine WP.region ?_
    refine RG.pv rfl (PV.field rfl Fo101_0 rfl) ?_
    refine RG.pv rfl (PV.load1 rfl Sc2 rfl (Rd.blk rfl)) ?_
    refine RG.pv rfl (PV.field rfl Fo101_0 rfl) ?_
    refine RG.pv rfl (PV.load1 rfl Sc2 rfl (Rd.blk rfl)) ?_
    refine RG.pv rfl (PV.min2 rfl rfl rfl) ?_
    refine RG.pv rfl (PV.field rfl Fo101_1 rfl) ?_
    refine RG.pv rfl (PV.load1 rfl Sc2 rfl (Rd.blk rfl)) ?_
    refine RG.pv rfl (PV.field rfl Fo101_1 rfl) ?_
    refine RG.pv rfl (PV.load1 rfl Sc2 rfl (Rd.blk rfl)) ?_
    refine RG.pv rfl (PV.min2 rfl rfl rfl) ?_
    refine RG.pv rfl (PV.field rfl Fo101_2 rfl) ?_
    refine RG.pv rfl (PV.load1 rfl Sc2 rfl (Rd.blk rfl)) ?_
    refine RG.pv rfl (PV.field rfl Fo101_2 rfl) ?_
    refine RG.pv rfl (PV.load1 rfl Sc2 rfl (Rd.blk rfl)) ?_
    refine RG.pv rfl (PV.max2 rfl rfl rfl) ?_
    refine RG.pv rfl (PV.field rfl Fo101_3 rfl) ?_
    refine RG.pv rfl (PV.load1 rfl Sc2 rfl (Rd.blk rfl)) ?_
    refine RG.pv rfl (PV.field rfl Fo101_3 rfl) ?_
    refine RG.pv rfl (PV.load1 rfl Sc2 rfl (Rd.blk rfl)) ?_
    refine RG.pv rfl (PV.max2 rfl rfl rfl) ?_
    refine RG.pv rfl (PV.build (vs := [(0, [vi _]), (1, [vi _]), (2, [vi _]), (3, [vi _])]) (out := [_, _, _, _]) rfl Zr101 Pl101 ⟨rfl, (Cl.c rfl), ⟨rfl, (Cl.c rfl), ⟨rfl, (Cl.c rfl), ⟨rfl, (Cl.c rfl), trivial⟩⟩⟩⟩ rfl) ?_
    refine RG.ot rfl (OT.storeW (vs := [vi _, vi _, vi _, vi _]) rfl Sz101 rfl rfl (Cl.c rfl) rfl rfl (OneC.c rfl) ?_)
    refine RG.nil ?_
    refine WP.region ?_
    refine RG.pv rfl (PV.add rfl rfl rfl (by omega)) ?_
    refine RG.pv rfl (PV.mvI (.inl rfl) rfl) ?_
    refine RG.nil ?_
    exact ⟨rfl, i + 1, (joinR a (gd xs i)), ⟨by omega, by rw [boxFrom_take (by omega), ha]⟩, ⟨rfl, trivial⟩, ⟨rfl, rfl, rfl, rfl, trivial⟩, Cv.p, by omega⟩
  · have h2 := of_decide_eq_false h2
    have e : a = boxL xs := by rw [ha, List.take_of_length_le (by omega)]; rfl
    rw [← e] at k
    refine WP.exit ?_
    refine WP.seq ?_
    refine WP.region ?_
    refine RG.pv rfl (PV.loadW rfl Ag101 rfl rfl) ?_
    refine RG.ot rfl (OT.storeW (vs := [vi _, vi _, vi _, vi _]) rfl Sz101 rfl rfl (Cl.c rfl) rfl rfl (OneC.c rfl) ?_)
    refine RG.nil ?_
    refine WP.ret ?_
    exact ⟨_, _, ResV.one rfl (RV1.cell rfl Ag101 rfl), Cv.p, k⟩
theorem l02Box_s {v : Value} {xs : List Rect} (h1 : Rs G L rectT v xs) (h0 : 0 < xs.length) (k : R (vrect (boxL xs)) G L) : CallT Tryz.prog 221 #[v] G L R := by
  refine CallT.bd h1 fun hb => ?_
  refine CallT.enter (args := _) Tryz.func221 rfl rfl (by kernel_rfl) rfl ?_
  refine WP.seq ?_
  refine WP.region ?_
  refine RG.ot rfl (OT.alloc rfl Zr101 fun b2 => ?_)
  refine RG.nil ?_
  refine WP.seq ?_
  refine WP.region ?_
  refine RG.pv rfl (PV.move (v := v) rfl rfl) ?_
  refine RG.pv rfl (PV.idxS (j := 0) (v := v) rfl Is35 rfl (SlF.r h1) rfl (by omega) (by omega)) ?_
  refine RG.pv rfl (PV.loadE rfl Ag101 rfl rfl (El.r h1 (getG (by omega)))) ?_
  refine RG.ot rfl (OT.alloc rfl Zr101 fun b3 => ?_)
  refine RG.ot rfl (OT.storeW (vs := [vi _, vi _, vi _, vi _]) rfl Sz101 rfl rfl (Cl.c rfl) rfl rfl (OneC.c rfl) ?_)
  refine RG.nil ?_
  refine WP.seq ?_
  refine WP.seq ?_
  refine WP.region ?_
  refine RG.pv rfl (PV.mvI (.inr rfl) rfl) ?_
  refine RG.nil ?_
  refine WP.block ?_
  refine WP.loop2 [0, 2, 3] (fun (i : Nat) (a : Rect) => 1 ≤ i ∧ i ≤ xs.length ∧ a = boxFrom (gd xs 0) (xs.take i)) (fun (i : Nat) (a : Rect) => [(4, vi i)]) (fun (i : Nat) (a : Rect) => blk b3 101 (rectT.enc a) :: blk b2 101 [vi 0, vi 0, vi 0, vi 0] :: L) (fun (i : Nat) (a : Rect) => xs.length - i) 1 (gd xs 0) ⟨by omega, by omega, (boxFrom_one h0).symm⟩ ⟨rfl, trivial⟩ Cv.p ?_
  rintro i a τ ⟨hi0, hi, ha⟩
  refine WP.seq ?_
  refine WP.seq ?_
  refine WP.region ?_
  refine RG.pv rfl (PV.mvI (.inl rfl) rfl) ?_
  refine RG.pv rfl (PV.move (v := v) rfl rfl) ?_
  refine RG.pv rfl (PV.len (v := v) rfl Tryz.underlying35 rfl (SlF.r h1)) ?_
  refine RG.pv rfl (PV.lss rfl rfl rfl) ?_
  refine RG.nil ?_
  refine WP.cond rfl (fun h2 => ?_) (fun h2 => ?_)
  · have h2 := of_decide_eq_true h2
    refine WP.skip ?_
    refine WP.seq ?_
    refine WP.block ?_
    refine WP.seq ?_
    refine WP.region ?_
    refine RG.pv rfl (PV.move (v := v) rfl rfl) ?_
    refine RG.pv rfl (PV.mvI (.inl rfl) rfl) ?_
    refine RG.pv rfl (PV.idxS (v := v) rfl Is35 rfl (SlF.r h1) rfl rfl (by omega)) ?_
    refine RG.pv rfl (PV.loadE rfl Ag101 rfl rfl (El.r h1 (getG (by omega)))) ?_
    refine RG.ot rfl (OT.alloc rfl Zr101 fun b5 => ?_)
    refine RG.ot rfl (OT.storeW (vs := [vi _, vi _, vi _, vi _]) rfl Sz101 rfl rfl (Cl.c rfl) rfl rfl (OneC.c rfl) ?_)
    refine RG.nil ?_
    refine WP.region ?_
    refine RG.pv rfl (PV.field rfl Fo101_0 rfl) ?_
    refine RG.pv rfl (PV.load1 rfl Sc2 rfl (Rd.blk rfl)) ?_
    refine RG.pv rfl (PV.field rfl Fo101_0 rfl) ?_
    refine RG.pv rfl (PV.load1 rfl Sc2 rfl (Rd.blk rfl)) ?_
    refine RG.pv rfl (PV.min2 rfl rfl rfl) ?_
    refine RG.pv rfl (PV.field rfl Fo101_1 rfl) ?_
    refine RG.pv rfl (PV.load1 rfl Sc2 rfl (Rd.blk rfl)) ?_
    refine RG.pv rfl (PV.field rfl Fo101_1 rfl) ?_
    refine RG.pv rfl (PV.load1 rfl Sc2 rfl (Rd.blk rfl)) ?_
    refine RG.pv rfl (PV.min2 rfl rfl rfl) ?_
    refine RG.pv rfl (PV.field rfl Fo101_2 rfl) ?_
    refine RG.pv rfl (PV.load1 rfl Sc2 rfl (Rd.blk rfl)) ?_
    refine RG.pv rfl (PV.field rfl Fo101_2 rfl) ?_
    refine RG.pv rfl (PV.load1 rfl Sc2 rfl (Rd.blk rfl)) ?_
    refine RG.pv rfl (PV.max2 rfl rfl rfl) ?_
    refine RG.pv rfl (PV.field rfl Fo101_3 rfl) ?_
    refine RG.pv rfl (PV.load1 rfl Sc2 rfl (Rd.blk rfl)) ?_
    refine RG.pv rfl (PV.field rfl Fo101_3 rfl) ?_
    refine RG.pv rfl (PV.load1 rfl Sc2 rfl (Rd.blk rfl)) ?_
    refine RG.pv rfl (PV.max2 rfl rfl rfl) ?_
    refine RG.pv rfl (PV.build (vs := [(0, [vi _]), (1, [vi _]), (2, [vi _]), (3, [vi _])]) (out := [_, _, _, _]) rfl Zr101 Pl101 ⟨rfl, (Cl.c rfl), ⟨rfl, (Cl.c rfl), ⟨rfl, (Cl.c rfl), ⟨rfl, (Cl.c rfl), trivial⟩⟩⟩⟩ rfl) ?_
    refine RG.ot rfl (OT.storeW (vs := [vi _, vi _, vi _, vi _]) rfl Sz101 rfl rfl (Cl.c rfl) rfl rfl (OneC.c rfl) ?_)
    refine RG.nil ?_
    refine WP.region ?_
    refine RG.pv rfl (PV.mvI (.inl rfl) rfl) ?_
    refine RG.pv rfl (PV.add rfl rfl rfl (by omega)) ?_
    refine RG.pv rfl (PV.mvI (.inr rfl) rfl) ?_
    refine RG.nil ?_
    exact ⟨rfl, i + 1, (joinR a (gd xs i)), ⟨by omega, by omega, by rw [boxFrom_take (by omega), ha]⟩, ⟨rfl, trivial⟩, ⟨rfl, rfl, rfl, trivial⟩, Cv.p, by omega⟩
  · have h2 := of_decide_eq_false h2
    have e : a = boxL xs := by rw [ha, List.take_of_length_le (by omega)]; rfl
    rw [← e] at k
    refine WP.exit ?_
    refine WP.seq ?_
    refine WP.region ?_
    refine RG.pv rfl (PV.loadW rfl Ag101 rfl rfl) ?_
    refine RG.ot rfl (OT.storeW (vs := [vi _, vi _, vi _, vi _]) rfl Sz101 rfl rfl (Cl.c rfl) rfl rfl (OneC.c rfl) ?_)
    refine RG.nil ?_
    refine WP.ret ?_
    exact ⟨_, _, ResV.one rfl (RV1.cell rfl Ag101 rfl), Cv.p, k⟩
theorem hash_s {v : Value} {h : Int} {l : List Int} (h1 : Rs G L intT v l) (hh : 0 ≤ h ∧ h < 2147483647) (hl : ∀ i, i < l.length → 0 ≤ gd l i ∧ gd l i ≤ 4294967296) (k : R (vi (hashL h l)) G L) : CallT Tryz.prog 128 #[vi h, v] G L R := by
  refine CallT.bd h1 fun hb => ?_
  refine CallT.enter (args := _) Tryz.func128 rfl rfl (by kernel_rfl) rfl ?_
  refine WP.seq ?_
  refine WP.region ?_
  refine RG.pv rfl (PV.mvI (.inr rfl) rfl) ?_
  refine RG.nil ?_
  refine WP.seq ?_
  refine WP.seq ?_
  refine WP.region ?_
  refine RG.pv rfl (PV.move (v := v) rfl rfl) ?_
  refine RG.pv rfl (PV.len (v := v) rfl Tryz.underlying134 rfl (SlF.r h1)) ?_
  refine RG.pv rfl (PV.mvI (.inl rfl) rfl) ?_
  refine RG.nil ?_
  refine WP.block ?_
  refine WP.loop2 [7, 8] (fun (i : Nat) (g : Int) => i ≤ l.length ∧ g = hashL h (l.take i)) (fun (i : Nat) (g : Int) => [(9, vi i), (0, vi g)]) (fun (i : Nat) (g : Int) => L) (fun (i : Nat) (g : Int) => l.length - i) 0 h ⟨by omega, rfl⟩ ⟨rfl, rfl, trivial⟩ Cv.p ?_
  rintro i g τ ⟨hi, hg⟩
  refine WP.seq ?_
  refine WP.region ?_
  refine RG.pv rfl (PV.lss rfl rfl rfl) ?_
  refine RG.nil ?_
  refine WP.seq ?_
  have hgb := hashL_bd (l.take i) hh
  rw [← hg] at hgb
  refine WP.cond rfl (fun h2 => ?_) (fun h2 => ?_)
  · have h2 := of_decide_eq_true h2
    have hli := hl i (by omega)
    refine WP.skip ?_
    refine WP.seq ?_
    refine WP.block ?_
    refine WP.seq ?_
    refine WP.region ?_
    refine RG.pv rfl (PV.idxS (v := v) rfl Is134 rfl (SlF.r h1) rfl rfl (by omega)) ?_
    refine RG.pv rfl (PV.loadE1 rfl Sc2 rfl rfl (El.r h1 (getG (by omega))) rfl) ?_
    refine RG.pv rfl (PV.mvI (.inr rfl) rfl) ?_
    refine RG.nil ?_
    refine WP.region ?_
    refine RG.pv rfl (PV.mvI (.inl rfl) rfl) ?_
    refine RG.pv rfl (PV.mul rfl rfl rfl (by omega)) ?_
    refine RG.pv rfl (PV.mvI (.inl rfl) rfl) ?_
    refine RG.pv rfl (PV.add rfl rfl rfl (by omega)) ?_
    refine RG.pv rfl (PV.add rfl rfl rfl (by omega)) ?_
    refine RG.pv rfl (PV.rem rfl rfl rfl (by omega) (by omega) (by omega)) ?_
    refine RG.pv rfl (PV.mvI (.inr rfl) rfl) ?_
    refine RG.nil ?_
    refine WP.region ?_
    refine RG.pv rfl (PV.add rfl rfl rfl (by omega)) ?_
    refine RG.pv rfl (PV.mvI (.inl rfl) rfl) ?_
    refine RG.nil ?_
    exact ⟨rfl, i + 1, _, ⟨by omega, by rw [hashL_take (by omega), ← hg]; rfl⟩, ⟨rfl, rfl, trivial⟩, ⟨rfl, rfl, trivial⟩, Cv.p, by omega⟩
  · have h2 := of_decide_eq_false h2
    have e : g = hashL h l := by rw [hg, List.take_of_length_le (by omega)]
    rw [← e] at k
    refine WP.exit ?_
    refine WP.seq ?_
    refine WP.region ?_
    refine RG.pv rfl (PV.mvI (.inl rfl) rfl) ?_
    refine RG.pv rfl (PV.mvI (.inr rfl) rfl) ?_
    refine RG.nil ?_
    refine WP.ret ?_
    exact ⟨_, _, ResV.one rfl rfl, Cv.p, k⟩
theorem l22Hash_s {h n : Int} (hh : 0 ≤ h ∧ h < 2147483647) (hl : 0 ≤ n ∧ n ≤ 4294967296) (k : R (vi (hashI h n)) G L) : CallT Tryz.prog 124 #[vi h, vi n] G L R := by
  refine CallT.enter (args := _) Tryz.func124 rfl rfl (by kernel_rfl) rfl ?_
  refine WP.seq ?_
  refine WP.region ?_
  refine RG.pv rfl (PV.mvI (.inr rfl) rfl) ?_
  refine RG.nil ?_
  refine WP.seq ?_
  refine WP.region ?_
  refine RG.pv rfl (PV.mvI (.inl rfl) rfl) ?_
  refine RG.pv rfl (PV.mul rfl rfl rfl (by omega)) ?_
  refine RG.pv rfl (PV.mvI (.inl rfl) rfl) ?_
  refine RG.pv rfl (PV.add rfl rfl rfl (by omega)) ?_
  refine RG.pv rfl (PV.add rfl rfl rfl (by omega)) ?_
  refine RG.pv rfl (PV.rem rfl rfl rfl (by omega) (by omega) (by omega)) ?_
  refine RG.pv rfl (PV.mvI (.inr rfl) rfl) ?_
  refine RG.nil ?_
  refine WP.ret ?_
  exact ⟨_, _, ResV.one rfl rfl, Cv.p, k⟩
def movedOk (t : Trans) (xs : List Rect) : Bool := xs.all fun r => validRect (moveR t r)
def movedR (t : Trans) (xs : List Rect) : List Rect := bif movedOk t xs then canon (bits (xs.map (moveR t))) else []
theorem l03Moved_s {t : Trans} {v : Value} {xs : List Rect} (h1 : Rs G L rectT v xs) (hb2 : xs.length ≤ 1048576) (ho : 0 ≤ t.o ∧ t.o ≤ 7) (ht : -1000 ≤ t.x ∧ t.x ≤ 1000 ∧ -1000 ≤ t.y ∧ t.y ≤ 1000) (hr : ∀ i, i < xs.length → RIn 40 (gd xs i))
    (k : ∀ v', R (.tuple #[v', .bool (movedOk t xs)]) G (osl 101 rectT v' (movedR t xs) :: L)) : CallT Tryz.prog 222 #[vtrans t, v] G L R := by
  refine CallT.enter (args := _) Tryz.func222 rfl rfl (by kernel_rfl) rfl ?_
  refine WP.seq ?_
  refine WP.region ?_
  refine RG.ot rfl (OT.box (cs := transT.enc t) rfl rfl rfl fun b2 => ?_)
  refine RG.pv rfl (PV.asg rfl rfl) ?_
  refine RG.pv rfl (PV.mvB (.inr rfl) rfl) ?_
  refine RG.nil ?_
  refine WP.seq ?_
  refine WP.region ?_
  refine RG.ot rfl (OT.bslice (F := rectT) (els := []) rfl El35 rfl (by decide) rfl (by decide) trivial fun v9 => ?_)
  refine RG.pv rfl (PV.asg (v := v9) rfl rfl) ?_
  refine RG.nil ?_
  refine WP.seq ?_
  refine WP.seq ?_
  refine WP.region ?_
  refine RG.pv rfl (PV.mvI (.inr rfl) rfl) ?_
  refine RG.nil ?_
  refine WP.block ?_
  refine WP.loop3 [1, 2] (fun (i : Nat) (ys : List Rect) (u : Value) => i ≤ xs.length ∧ ys = (xs.take i).map (moveR t) ∧ ∀ j, j < ys.length → validRect (gd ys j) = true) (fun (i : Nat) (ys : List Rect) (u : Value) => [(7, vi i), (6, u)]) (fun (i : Nat) (ys : List Rect) (u : Value) => osl 101 rectT u ys :: blk b2 190 (transT.enc t) :: L) (fun (i : Nat) (ys : List Rect) (u : Value) => xs.length - i) 0 [] v9 ⟨by omega, rfl, fun j hj => by simp at hj⟩ ⟨rfl, rfl, trivial⟩ Cv.p ?_
  rintro i ys u τ ⟨hi, hys, hva⟩
  refine WP.seq ?_
  refine WP.seq ?_
  refine WP.region ?_
  refine RG.pv rfl (PV.mvI (.inl rfl) rfl) ?_
  refine RG.pv rfl (PV.move (v := v) rfl rfl) ?_
  refine RG.pv rfl (PV.len (v := v) rfl Tryz.underlying35 rfl (SlF.r h1)) ?_
  refine RG.pv rfl (PV.lss rfl rfl rfl) ?_
  refine RG.nil ?_
  have hyl : ys.length = i := by rw [hys]; simp; omega
  refine WP.cond rfl (fun h2 => ?_) (fun h2 => ?_)
  · have h2 := of_decide_eq_true h2
    refine WP.skip ?_
    refine WP.seq ?_
    refine WP.block ?_
    refine WP.cut1 [1, 2, 6, 7] (fun (b8 : Nat) => True) (fun (b8 : Nat) => [(8, .pointer (some ⟨b8, 0, none⟩))]) (fun (b8 : Nat) => blk b8 101 (rectT.enc (moveR t (gd xs i))) :: osl 101 rectT u ys :: blk b2 190 (transT.enc t) :: L) ?_ ?_
    refine WP.regionH0 (.q 0 (.q 1 (.q 2 (.q 3 (.q 4 (.b 5 (.l 6 (.l 7 Sch.nil)) 6 (.l 5 (.l 7 Sch.nil)))))))) (by kernel_rfl) (by kernel_rfl) (by kernel_rfl) rfl ?_
    refine RH.pv rfl (fun _ _ _ _ h => h) (Gh.le_refl _) PickC.pick rfl (PV.loadW rfl Ag190 rfl rfl) ?_
    refine RH.pv rfl (fun _ _ _ _ h => h) (Gh.le_refl _) PickC.pick rfl (PV.move (v := v) rfl rfl) ?_
    refine RH.pv rfl (fun _ _ _ _ h => h) (Gh.le_refl _) PickC.pick rfl (PV.mvI (.inl rfl) rfl) ?_
    refine RH.pv rfl (fun _ _ _ _ h => h) (Gh.le_refl _) PickC.pick rfl (PV.idxS (v := v) rfl Is35 rfl (SlF.r h1) rfl rfl (by omega)) ?_
    refine RH.pv rfl (fun _ _ _ _ h => h) (Gh.le_refl _) PickC.pick rfl (PV.loadE rfl Ag101 rfl rfl (El.r h1 (getG (by omega)))) ?_
    · refine RH.ot2 rfl rfl rfl rfl  (OT.callF (vs := [_, _]) rfl En220 rfl (moveRect_r ho ht (hr i (by omega)) ⟨Gh.le_refl _, PickC.pick, ?_⟩)) (OT.alloc rfl Zr101 fun b8 => ⟨Gh.le_refl _, PickC.pick, ?_⟩)
      · refine RH.ot rfl rfl (OT.alloc rfl Zr101 fun b8 => ⟨Gh.le_refl _, PickC.pick, ?_⟩)
        refine RH.ot rfl rfl (OT.storeW (vs := [vi _, vi _, vi _, vi _]) rfl Sz101 rfl rfl (Cl.c rfl) rfl rfl (OneC.c rfl) ⟨Gh.le_refl _, PickC.pick, ?_⟩)
        refine RH.nil ?_
        exact ⟨rfl, b8, trivial, ⟨rfl, trivial⟩, ⟨rfl, rfl, rfl, rfl, trivial⟩, Cv.p⟩
      · refine RH.ot rfl rfl (OT.callF (vs := [_, _]) rfl En220 rfl (moveRect_r ho ht (hr i (by omega)) ⟨Gh.le_refl _, PickC.pick, ?_⟩))
        refine RH.ot rfl rfl (OT.storeW (vs := [vi _, vi _, vi _, vi _]) rfl Sz101 rfl rfl (Cl.c rfl) rfl rfl (OneC.c rfl) ⟨Gh.le_refl _, PickC.pick, ?_⟩)
        refine RH.nil ?_
        exact ⟨rfl, b8, trivial, ⟨rfl, trivial⟩, ⟨rfl, rfl, rfl, rfl, trivial⟩, Cv.p⟩
    · rintro b8 τ1 -
      refine WP.seq ?_
      refine WP.seq ?_
      refine WP.region ?_
      refine RG.pv rfl (PV.loadW rfl Ag101 rfl rfl) ?_
      refine RG.callF (vs := [_]) rfl rfl En186 rfl (validRect_s' ?_)
      refine RG.pv rfl (PV.not rfl rfl) ?_
      refine RG.nil ?_
      refine WP.cond rfl (fun h3 => ?_) (fun h3 => ?_)
      · have e1 : movedOk t xs = false := by
          rw [movedOk, List.all_eq_false]
          exact ⟨gd xs i, by rw [gd_eq (by omega)]; exact List.getElem_mem _, by simpa using h3⟩
        have e2 : movedR t xs = [] := by rw [movedR, e1]; rfl
        rw [e1, e2] at k
        refine WP.seq ?_
        refine WP.region ?_
        refine RG.pv rfl (PV.asg rfl rfl) ?_
        refine RG.pv rfl (PV.mvB (.inr rfl) rfl) ?_
        refine RG.nil ?_
        refine WP.ret ?_
        exact ⟨_, _, ResV.two rfl rfl rfl, Cv.nilP, k (.slice none 0 0)⟩
      · have h4 : validRect (moveR t (gd xs i)) = true := by simpa using h3
        refine WP.skip ?_
        refine WP.region ?_
        refine RG.pv rfl (PV.move (v := u) rfl rfl) ?_
        refine RG.pv rfl (PV.loadW rfl Ag101 rfl rfl) ?_
        refine RG.ot rfl (OT.bslice (F := rectT) (els := [⟨_, _, _, _⟩]) rfl El35 rfl (by decide) rfl (by decide) ⟨rfl, (Cl.c rfl), trivial⟩ fun v27 => ?_)
        refine RG.ot rfl (OT.append (v := u) (u := v27) (F := rectT) rfl El35 rfl (by decide) rfl rfl Rs.o (OneL.c (fun _ => rfl)) rfl (by first | omega | (simp <;> omega)) fun v28 => ?_)
        refine RG.pv rfl (PV.asg (v := v28) rfl rfl) ?_
        refine RG.nil ?_
        refine WP.region ?_
        refine RG.pv rfl (PV.mvI (.inl rfl) rfl) ?_
        refine RG.pv rfl (PV.add rfl rfl rfl (by omega)) ?_
        refine RG.pv rfl (PV.mvI (.inr rfl) rfl) ?_
        refine RG.nil ?_
        refine ⟨rfl, i + 1, (ys ++ [moveR t (gd xs i)]), v28, ⟨by omega, by rw [hys, List.take_add_one, getG (by omega)]; simp, fun j hj => ?_⟩, ⟨rfl, rfl, trivial⟩, ⟨rfl, rfl, trivial⟩, ((Cv.eqS (ys := ys ++ [moveR t (gd xs i)]) rfl).trans Cv.p), by omega⟩
        by_cases c : j = ys.length
        · subst c; simpa [gd] using h4
        · have := hva j (by simp at hj; omega)
          simpa [gd, List.getElem?_append_left (show j < ys.length by simp at hj; omega)] using this
  · have h2 := of_decide_eq_false h2
    have e1 : movedOk t xs = true := by
      rw [movedOk, List.all_eq_true]
      intro r hr
      obtain ⟨j, hj, rfl⟩ := List.getElem_of_mem hr
      have := hva j (by omega)
      rw [hys, List.take_of_length_le (by omega), gd_map _ hj, gd_eq hj] at this; exact this
    have e2 : movedR t xs = canon (bits ys) := by rw [movedR, e1, hys, List.take_of_length_le (by omega)]; rfl
    rw [e1, e2] at k
    refine WP.exit ?_
    refine WP.seq ?_
    refine WP.region ?_
    refine RG.pv rfl (PV.move (v := u) rfl rfl) ?_
    refine RG.callF (vs := [u]) rfl rfl En134 rfl (l03Bits_s Rs.o (fun i hi => hva i hi) (fun v30 => ?_))
    refine RG.callF (vs := [v30]) rfl rfl En133 rfl (l03Canon_s Rs.o (bits_length _) (fun v31 => ?_))
    refine RG.pv rfl (PV.asg (v := v31) rfl rfl) ?_
    refine RG.pv rfl (PV.mvB (.inr rfl) rfl) ?_
    refine RG.nil ?_
    refine WP.ret ?_
    exact ⟨_, _, ResV.two rfl rfl rfl, Cv.p, k v31⟩
theorem imgs_len (xs : List Rect) (o : Int) : (imgs xs o).length = xs.length := by simp [imgs]
theorem imgs_take {xs : List Rect} {o : Int} {i : Nat} (h : i < xs.length) : (xs.take (i + 1)).map (moveR ⟨o, 0, 0⟩) = (xs.take i).map (moveR ⟨o, 0, 0⟩) ++ [moveR ⟨o, 0, 0⟩ (gd xs i)] := by
  rw [List.take_add_one, getG h]; simp
theorem shifted_valid {im : List Rect} (h0 : 0 < im.length) (h : ∀ r ∈ im, RIn 40 r) : movedR ⟨0, -40 - (boxL im).x0, -40 - (boxL im).y0⟩ im = canon (bits (shifted im)) ∧ movedOk ⟨0, -40 - (boxL im).x0, -40 - (boxL im).y0⟩ im = true := by
  have e : ∀ r ∈ im, moveR ⟨0, -40 - (boxL im).x0, -40 - (boxL im).y0⟩ r = shiftR (-40 - (boxL im).x0) (-40 - (boxL im).y0) r := fun r hr => moveR_shift (by have := h r hr; simp only [RIn] at this; omega)
  have e2 : movedOk ⟨0, -40 - (boxL im).x0, -40 - (boxL im).y0⟩ im = true := by
    rw [movedOk, List.all_eq_true]
    intro r hr
    rw [e r hr]; exact RIn_valid.2 (shifted_in h0 h r hr)
  refine ⟨?_, e2⟩
  rw [movedR, e2]
  simp only [cond_true, shifted]
  rw [List.map_congr_left e]
theorem canon_bd {bs : List Bool} {i : Nat} (h : i < (canon bs).length) : -40 ≤ (gd (canon bs) i).x0 ∧ (gd (canon bs) i).x0 ≤ 40 ∧ -40 ≤ (gd (canon bs) i).y0 ∧ (gd (canon bs) i).y0 ≤ 40 ∧ -40 ≤ (gd (canon bs) i).x1 ∧ (gd (canon bs) i).x1 ≤ 40 ∧ -40 ≤ (gd (canon bs) i).y1 ∧ (gd (canon bs) i).y1 ≤ 40 := by
  have := canonFrom_mem bs 0 (gd (canon bs) i) (by rw [gd_eq h]; exact List.getElem_mem _)
  omega
theorem l22Turned_s {o : Int} {v : Value} {xs : List Rect} (h1 : Rs G L rectT v xs) (hne : 0 < xs.length) (hb2 : xs.length ≤ 1048576) (hr : ∀ r ∈ xs, RIn 40 r) (ho : 0 ≤ o ∧ o ≤ 7) (k : R (vi (sigO xs o)) G L) : CallT Tryz.prog 180 #[v, vi o] G L R := by
  refine CallT.enter (args := _) Tryz.func180 rfl rfl (by kernel_rfl) rfl ?_
  refine WP.seq ?_
  refine WP.region ?_
  refine RG.pv rfl (PV.mvI (.inr rfl) rfl) ?_
  refine RG.nil ?_
  refine WP.seq ?_
  refine WP.region ?_
  refine RG.ot rfl (OT.bslice (F := rectT) (els := []) rfl El35 rfl (by decide) rfl (by decide) trivial fun v12 => ?_)
  refine RG.pv rfl (PV.asg (v := v12) rfl rfl) ?_
  refine RG.nil ?_
  refine WP.seq ?_
  refine WP.seq ?_
  refine WP.region ?_
  refine RG.pv rfl (PV.mvI (.inr rfl) rfl) ?_
  refine RG.nil ?_
  refine WP.block ?_
  refine WP.loop3 [0, 1] (fun (i : Nat) (ys : List Rect) (u : Value) => i ≤ xs.length ∧ ys = (xs.take i).map (moveR ⟨o, 0, 0⟩)) (fun (i : Nat) (ys : List Rect) (u : Value) => [(6, vi i), (5, u)]) (fun (i : Nat) (ys : List Rect) (u : Value) => osl 101 rectT u ys :: L) (fun (i : Nat) (ys : List Rect) (u : Value) => xs.length - i) 0 [] v12 ⟨by omega, rfl⟩ ⟨rfl, rfl, trivial⟩ Cv.p ?_
  rintro i ys u τ ⟨hi, hys⟩
  refine WP.seq ?_
  refine WP.seq ?_
  refine WP.region ?_
  refine RG.pv rfl (PV.mvI (.inl rfl) rfl) ?_
  refine RG.pv rfl (PV.move (v := v) rfl rfl) ?_
  refine RG.pv rfl (PV.len (v := v) rfl Tryz.underlying35 rfl (SlF.r h1)) ?_
  refine RG.pv rfl (PV.lss rfl rfl rfl) ?_
  refine RG.nil ?_
  have hyl : ys.length = i := by rw [hys]; simp; omega
  refine WP.cond rfl (fun h2 => ?_) (fun h2 => ?_)
  · have h2 := of_decide_eq_true h2
    refine WP.skip ?_
    refine WP.seq ?_
    refine WP.block ?_
    refine WP.region ?_
    refine RG.pv rfl (PV.move (v := u) rfl rfl) ?_
    refine RG.pv rfl (PV.mvI (.inl rfl) rfl) ?_
    refine RG.pv rfl (PV.build (vs := [(0, [vi _])]) (out := [_, _, _]) rfl Zr190 Pl190 ⟨rfl, (Cl.c rfl), trivial⟩ rfl) ?_
    refine RG.pv rfl (PV.move (v := v) rfl rfl) ?_
    refine RG.pv rfl (PV.mvI (.inl rfl) rfl) ?_
    refine RG.pv rfl (PV.idxS (v := v) rfl Is35 rfl (SlF.r h1) rfl rfl (by omega)) ?_
    refine RG.pv rfl (PV.loadE rfl Ag101 rfl rfl (El.r h1 (getG (by omega)))) ?_
    refine RG.callF (vs := [_, _]) rfl rfl En220 rfl (moveRect_r (t := ⟨_, _, _⟩) ho (by simp) (RIn_gd hr (by omega)) ?_)
    refine RG.ot rfl (OT.bslice (F := rectT) (els := [_]) rfl El35 rfl (by decide) rfl (by decide) ⟨rfl, (Cl.c rfl), trivial⟩ fun v27 => ?_)
    refine RG.ot rfl (OT.append (v := u) (u := v27) (F := rectT) rfl El35 rfl (by decide) rfl rfl Rs.o (OneL.c (fun _ => rfl)) rfl (by first | omega | (simp <;> omega)) fun v28 => ?_)
    refine RG.pv rfl (PV.asg (v := v28) rfl rfl) ?_
    refine RG.nil ?_
    refine WP.region ?_
    refine RG.pv rfl (PV.mvI (.inl rfl) rfl) ?_
    refine RG.pv rfl (PV.add rfl rfl rfl (by omega)) ?_
    refine RG.pv rfl (PV.mvI (.inr rfl) rfl) ?_
    refine RG.nil ?_
    exact ⟨rfl, i + 1, (ys ++ [moveR ⟨o, 0, 0⟩ (gd xs i)]), v28, ⟨by omega, by rw [hys, imgs_take (by omega)]⟩, ⟨rfl, rfl, trivial⟩, ⟨rfl, rfl, trivial⟩, Cv.p, by omega⟩
  · have h2 := of_decide_eq_false h2
    have e : ys = imgs xs o := by rw [hys, List.take_of_length_le (by omega)]; rfl
    subst e
    have h0 : 0 < (imgs xs o).length := by omega
    have hri := imgs_in ho hr
    have hbx := boxL_in h0 hri
    obtain ⟨hm1, hm2⟩ := shifted_valid h0 hri
    have hbx2 := hbx
    simp only [RIn] at hbx2
    refine WP.exit ?_
    refine WP.seq ?_
    refine WP.region ?_
    refine RG.pv rfl (PV.move (v := u) rfl rfl) ?_
    refine RG.callF (vs := [u]) rfl rfl En221 rfl (l02Box_s Rs.o h0 ?_)
    refine RG.ot rfl (OT.alloc rfl Zr101 fun b7 => ?_)
    refine RG.ot rfl (OT.storeW (vs := [vi _, vi _, vi _, vi _]) rfl Sz101 rfl rfl (Cl.c rfl) rfl rfl (OneC.c rfl) ?_)
    refine RG.nil ?_
    refine WP.seq ?_
    refine WP.region ?_
    refine RG.pv rfl (PV.field rfl Fo101_0 rfl) ?_
    refine RG.pv rfl (PV.load1 rfl Sc2 rfl (Rd.blk rfl)) ?_
    refine RG.pv rfl (PV.sub rfl rfl rfl (by omega)) ?_
    refine RG.pv rfl (PV.field rfl Fo101_1 rfl) ?_
    refine RG.pv rfl (PV.load1 rfl Sc2 rfl (Rd.blk rfl)) ?_
    refine RG.pv rfl (PV.sub rfl rfl rfl (by omega)) ?_
    refine RG.pv rfl (PV.build (vs := [(1, [vi _]), (2, [vi _])]) (out := [_, _, _]) rfl Zr190 Pl190 ⟨rfl, (Cl.c rfl), ⟨rfl, (Cl.c rfl), trivial⟩⟩ rfl) ?_
    refine RG.pv rfl (PV.move (v := u) rfl rfl) ?_
    refine RG.callF (vs := [_, u]) rfl rfl En222 rfl (l03Moved_s (t := ⟨0, _, _⟩) Rs.o (by omega) (by simp) (by simp only; omega) (fun i hi => RIn_gd hri hi) (fun w40 => ?_))
    refine RG.pv rfl (PV.move (v := .tuple _) rfl rfl) ?_
    refine RG.pv rfl (PV.ext (v := w40) rfl rfl rfl) ?_
    refine RG.pv rfl (PV.ext rfl rfl rfl) ?_
    refine RG.pv rfl (PV.asg (v := w40) rfl rfl) ?_
    refine RG.pv rfl (PV.mvB (.inr rfl) rfl) ?_
    refine RG.nil ?_
    refine WP.seq ?_
    refine WP.region ?_
    refine RG.pv rfl (PV.mvI (.inr rfl) rfl) ?_
    refine RG.nil ?_
    refine WP.seq ?_
    refine WP.seq ?_
    refine WP.region ?_
    refine RG.pv rfl (PV.mvI (.inr rfl) rfl) ?_
    refine RG.nil ?_
    refine WP.block ?_
    rw [hm1, hm2]
    have hcb : ∀ i, i < (canon (bits (shifted (imgs xs o)))).length → _ := fun i hi => canon_bd hi
    have hcl := canon_len (bits (shifted (imgs xs o)))
    have hsg : sigO xs o = hashRs 17 (canon (bits (shifted (imgs xs o)))) := rfl
    generalize canon (bits (shifted (imgs xs o))) = C at *
    refine WP.loop2 [8] (fun (m : Nat) (g : Int) => m ≤ C.length ∧ g = hashRs 17 (C.take m)) (fun (m : Nat) (g : Int) => [(11, vi m), (10, vi g)]) (fun (m : Nat) (g : Int) => osl 101 rectT w40 C :: L) (fun (m : Nat) (g : Int) => C.length - m) 0 17 ⟨by omega, rfl⟩ ⟨rfl, rfl, trivial⟩ Cv.p ?_
    rintro m g τ1 ⟨hm, hg⟩
    refine WP.seq ?_
    refine WP.seq ?_
    refine WP.region ?_
    refine RG.pv rfl (PV.mvI (.inl rfl) rfl) ?_
    refine RG.pv rfl (PV.move (v := w40) rfl rfl) ?_
    refine RG.pv rfl (PV.len (v := w40) rfl Tryz.underlying35 rfl SlF.o) ?_
    refine RG.pv rfl (PV.lss rfl rfl rfl) ?_
    refine RG.nil ?_
    have hgb := hashRs_bd (h := 17) (C.take m) (by omega)
    rw [← hg] at hgb
    refine WP.cond rfl (fun h3 => ?_) (fun h3 => ?_)
    · have h3 := of_decide_eq_true h3
      obtain ⟨q1, q2, q3, q4, q5, q6, q7, q8⟩ := hcb m (by omega)
      refine WP.skip ?_
      refine WP.seq ?_
      refine WP.block ?_
      refine WP.seq ?_
      refine WP.region ?_
      refine RG.pv rfl (PV.mvI (.inl rfl) rfl) ?_
      refine RG.pv rfl (PV.move (v := w40) rfl rfl) ?_
      refine RG.pv rfl (PV.mvI (.inl rfl) rfl) ?_
      refine RG.pv rfl (PV.idxS (v := w40) rfl Is35 rfl SlF.o rfl rfl (by omega)) ?_
      refine RG.pv rfl (PV.field rfl Fo101_0 rfl) ?_
      refine RG.pv rfl (PV.loadF (v := w40) (j := 0) rfl Sc2 rfl rfl (El.o (getG (by omega))) rfl) ?_
      refine RG.pv rfl (PV.add rfl rfl rfl (by omega)) ?_
      refine RG.callF (vs := [_, _]) rfl rfl En124 rfl (l22Hash_s (by first | exact hgb | exact hashI_bd _ _) (by omega) ?_)
      refine RG.pv rfl (PV.mvI (.inr rfl) rfl) ?_
      refine RG.nil ?_
      refine WP.seq ?_
      refine WP.region ?_
      refine RG.pv rfl (PV.mvI (.inl rfl) rfl) ?_
      refine RG.pv rfl (PV.move (v := w40) rfl rfl) ?_
      refine RG.pv rfl (PV.mvI (.inl rfl) rfl) ?_
      refine RG.pv rfl (PV.idxS (v := w40) rfl Is35 rfl SlF.o rfl rfl (by omega)) ?_
      refine RG.pv rfl (PV.field rfl Fo101_1 rfl) ?_
      refine RG.pv rfl (PV.loadF rfl Sc2 rfl rfl (El.o (getG (by omega))) rfl) ?_
      refine RG.pv rfl (PV.add rfl rfl rfl (by omega)) ?_
      refine RG.callF (vs := [_, _]) rfl rfl En124 rfl (l22Hash_s (by first | exact hgb | exact hashI_bd _ _) (by omega) ?_)
      refine RG.pv rfl (PV.mvI (.inr rfl) rfl) ?_
      refine RG.nil ?_
      refine WP.seq ?_
      refine WP.region ?_
      refine RG.pv rfl (PV.mvI (.inl rfl) rfl) ?_
      refine RG.pv rfl (PV.move (v := w40) rfl rfl) ?_
      refine RG.pv rfl (PV.mvI (.inl rfl) rfl) ?_
      refine RG.pv rfl (PV.idxS (v := w40) rfl Is35 rfl SlF.o rfl rfl (by omega)) ?_
      refine RG.pv rfl (PV.field rfl Fo101_2 rfl) ?_
      refine RG.pv rfl (PV.loadF rfl Sc2 rfl rfl (El.o (getG (by omega))) rfl) ?_
      refine RG.pv rfl (PV.add rfl rfl rfl (by omega)) ?_
      refine RG.callF (vs := [_, _]) rfl rfl En124 rfl (l22Hash_s (by first | exact hgb | exact hashI_bd _ _) (by omega) ?_)
      refine RG.pv rfl (PV.mvI (.inr rfl) rfl) ?_
      refine RG.nil ?_
      refine WP.region ?_
      refine RG.pv rfl (PV.mvI (.inl rfl) rfl) ?_
      refine RG.pv rfl (PV.move (v := w40) rfl rfl) ?_
      refine RG.pv rfl (PV.mvI (.inl rfl) rfl) ?_
      refine RG.pv rfl (PV.idxS (v := w40) rfl Is35 rfl SlF.o rfl rfl (by omega)) ?_
      refine RG.pv rfl (PV.field rfl Fo101_3 rfl) ?_
      refine RG.pv rfl (PV.loadF rfl Sc2 rfl rfl (El.o (getG (by omega))) rfl) ?_
      refine RG.pv rfl (PV.add rfl rfl rfl (by omega)) ?_
      refine RG.callF (vs := [_, _]) rfl rfl En124 rfl (l22Hash_s (by first | exact hgb | exact hashI_bd _ _) (by omega) ?_)
      refine RG.pv rfl (PV.mvI (.inr rfl) rfl) ?_
      refine RG.nil ?_
      refine WP.region ?_
      refine RG.pv rfl (PV.mvI (.inl rfl) rfl) ?_
      refine RG.pv rfl (PV.add rfl rfl rfl (by omega)) ?_
      refine RG.pv rfl (PV.mvI (.inr rfl) rfl) ?_
      refine RG.nil ?_
      exact ⟨rfl, m + 1, _, ⟨by omega, by rw [hashRs_take (by omega), ← hg]; rfl⟩, ⟨rfl, rfl, trivial⟩, ⟨rfl, trivial⟩, Cv.p, by omega⟩
    · have h3 := of_decide_eq_false h3
      have e : sigO xs o = g := by rw [hsg, hg, List.take_of_length_le (by omega)]
      rw [e] at k
      refine WP.exit ?_
      refine WP.seq ?_
      refine WP.region ?_
      refine RG.pv rfl (PV.mvI (.inl rfl) rfl) ?_
      refine RG.pv rfl (PV.mvI (.inr rfl) rfl) ?_
      refine RG.nil ?_
      refine WP.ret ?_
      exact ⟨_, _, ResV.one rfl rfl, Cv.p, k⟩
def regSig (xs : List Rect) : Int := bif isReg xs && decide (0 < xs.length) then sigTo xs 7 else -1
theorem regSig_s {v : Value} {xs : List Rect} (h1 : Rs G L rectT v xs) (k : R (vi (regSig xs)) G L) : CallT Tryz.prog 123 #[v] G L R := by
  refine CallT.bd h1 fun hb => ?_
  refine CallT.enter (args := _) Tryz.func123 rfl rfl (by kernel_rfl) rfl ?_
  refine WP.seq ?_
  refine WP.region ?_
  refine RG.pv rfl (PV.mvI (.inr rfl) rfl) ?_
  refine RG.nil ?_
  refine WP.seq ?_
  refine WP.seq ?_
  refine WP.region ?_
  refine RG.pv rfl (PV.move (v := v) rfl rfl) ?_
  refine RG.callF (vs := [v]) rfl rfl En68 rfl (l03Ok_s (Rs.up h1) ?_)
  refine RG.pv rfl (PV.not rfl rfl) ?_
  refine RG.pv rfl (PV.mvB (.inl rfl) rfl) ?_
  refine RG.gs rfl rfl rfl (fun hp => (PV.move (v := v) rfl rfl)) ?_
  refine RG.gs rfl rfl rfl (fun hp => (PV.len (v := v) rfl Tryz.underlying35 (gs_t hp) (SlF.r h1))) ?_
  refine RG.gs rfl rfl rfl (fun hp => (PV.eql rfl (gs_t hp) rfl)) ?_
  refine RG.pv rfl (PV.pickO rfl rfl rfl (fun hq => gs_t (geqF hq))) ?_
  refine RG.nil ?_
  refine WP.cond rfl (fun h2 => ?_) (fun h2 => ?_)
  · have e : regSig xs = -1 := by
      cases h4 : isReg xs
      · simp [regSig, h4]
      · simp [h4] at h2; simp [regSig, h4, h2]
    rw [e] at k
    refine WP.seq ?_
    refine WP.region ?_
    refine RG.pv rfl (PV.mvI (.inr rfl) rfl) ?_
    refine RG.nil ?_
    refine WP.ret ?_
    exact ⟨_, _, ResV.one rfl rfl, Cv.p, k⟩
  · have hreg : isReg xs = true := by cases h4 : isReg xs <;> simp_all
    have hne : 0 < xs.length := by
      rcases Nat.eq_zero_or_pos xs.length with h | h
      · simp [hreg, h] at h2
      · exact h
    have hl := isReg_len hreg
    have e : regSig xs = sigTo xs 7 := by simp [regSig, hreg, hne]
    rw [e] at k
    refine WP.skip ?_
    refine WP.seq ?_
    refine WP.region ?_
    refine RG.pv rfl (PV.move (v := v) rfl rfl) ?_
    refine RG.callF (vs := [v, _]) rfl rfl En180 rfl (l22Turned_s (Rs.up h1) hne (by omega) (RIn_all hreg) (by omega) ?_)
    refine RG.pv rfl (PV.mvI (.inr rfl) rfl) ?_
    refine RG.nil ?_
    refine WP.seq ?_
    refine WP.seq ?_
    refine WP.region ?_
    refine RG.pv rfl (PV.mvI (.inr rfl) rfl) ?_
    refine RG.nil ?_
    refine WP.block ?_
    refine WP.loop2 [0] (fun (o : Nat) (m : Int) => 1 ≤ o ∧ o ≤ 8 ∧ m = sigTo xs (o - 1)) (fun (o : Nat) (m : Int) => [(4, vi o), (3, vi m)]) (fun (o : Nat) (m : Int) => L) (fun (o : Nat) (m : Int) => 8 - o) 1 (sigO xs 0) ⟨by omega, by omega, rfl⟩ ⟨rfl, rfl, trivial⟩ Cv.p ?_
    rintro o m τ ⟨ho0, ho7, hm⟩
    refine WP.seq ?_
    refine WP.seq ?_
    refine WP.region ?_
    refine RG.pv rfl (PV.mvI (.inl rfl) rfl) ?_
    refine RG.pv rfl (PV.lss rfl rfl rfl) ?_
    refine RG.nil ?_
    refine WP.cond rfl (fun h3 => ?_) (fun h3 => ?_)
    · have h3 := of_decide_eq_true h3
      refine WP.skip ?_
      refine WP.seq ?_
      refine WP.block ?_
      refine WP.region ?_
      refine RG.pv rfl (PV.mvI (.inl rfl) rfl) ?_
      refine RG.pv rfl (PV.move (v := v) rfl rfl) ?_
      refine RG.pv rfl (PV.mvI (.inl rfl) rfl) ?_
      refine RG.callF (vs := [v, _]) rfl rfl En180 rfl (l22Turned_s (Rs.up h1) hne (by omega) (RIn_all hreg) (by omega) ?_)
      refine RG.pv rfl (PV.min2 rfl rfl rfl) ?_
      refine RG.pv rfl (PV.mvI (.inr rfl) rfl) ?_
      refine RG.nil ?_
      refine WP.region ?_
      refine RG.pv rfl (PV.mvI (.inl rfl) rfl) ?_
      refine RG.pv rfl (PV.add rfl rfl rfl (by omega)) ?_
      refine RG.pv rfl (PV.mvI (.inr rfl) rfl) ?_
      refine RG.nil ?_
      refine ⟨rfl, o + 1, _, ⟨by omega, by omega, ?_⟩, ⟨rfl, rfl, trivial⟩, ⟨rfl, trivial⟩, Cv.p, by omega⟩
      rw [show o + 1 - 1 = (o - 1) + 1 by omega, sigTo, hm, show ((o - 1 : Nat) : Int) + 1 = (o : Int) by omega]
    · have h3 := of_decide_eq_false h3
      have e : sigTo xs 7 = m := by rw [hm, show o - 1 = 7 by omega]
      rw [e] at k
      refine WP.exit ?_
      refine WP.seq ?_
      refine WP.region ?_
      refine RG.pv rfl (PV.mvI (.inl rfl) rfl) ?_
      refine RG.pv rfl (PV.mvI (.inr rfl) rfl) ?_
      refine RG.nil ?_
      refine WP.ret ?_
      exact ⟨_, _, ResV.one rfl rfl, Cv.p, k⟩
theorem four_bd {a b c d : Int} (ha : 0 ≤ a ∧ a ≤ 4294967296) (hb : 0 ≤ b ∧ b ≤ 4294967296) (hc : 0 ≤ c ∧ c ≤ 4294967296) (hd : 0 ≤ d ∧ d ≤ 4294967296) : ∀ i, i < [a, b, c, d].length → 0 ≤ gd [a, b, c, d] i ∧ gd [a, b, c, d] i ≤ 4294967296 := by
  intro i hi
  match i, hi with
  | 0, _ => simpa [gd] using ha
  | 1, _ => simpa [gd] using hb
  | 2, _ => simpa [gd] using hc
  | 3, _ => simpa [gd] using hd
theorem signature_s {v : Value} {xs : List Rect} (h1 : Rs G L rectT v xs) (hne : 0 < xs.length) (hb2 : xs.length ≤ 1048576) (hr : ∀ r ∈ xs, RIn 40 r) (k : R (vi (sigTo xs 7)) G L) : CallT Tryz.prog 129 #[v] G L R := by
  refine CallT.enter (args := _) Tryz.func129 rfl rfl (by kernel_rfl) rfl ?_
  refine WP.seq ?_
  refine WP.region ?_
  refine RG.pv rfl (PV.mvI (.inr rfl) rfl) ?_
  refine RG.nil ?_
  refine WP.seq ?_
  refine WP.region ?_
  refine RG.pv rfl (PV.mvI (.inr rfl) rfl) ?_
  refine RG.nil ?_
  refine WP.seq ?_
  refine WP.seq ?_
  refine WP.region ?_
  refine RG.pv rfl (PV.mvI (.inl rfl) rfl) ?_
  refine RG.nil ?_
  refine WP.block ?_
  refine WP.loop2 [0] (fun (o : Nat) (m : Int) => o ≤ 8 ∧ m = (if o = 0 then -1 else sigTo xs (o - 1))) (fun (o : Nat) (m : Int) => [(17, vi o), (3, vi m)]) (fun (o : Nat) (m : Int) => L) (fun (o : Nat) (m : Int) => 8 - o) 0 (-1) ⟨by omega, rfl⟩ ⟨rfl, rfl, trivial⟩ Cv.p ?_
  rintro o m τ ⟨ho7, hm⟩
  refine WP.seq ?_
  refine WP.region ?_
  refine RG.pv rfl (PV.lss rfl rfl rfl) ?_
  refine RG.nil ?_
  refine WP.seq ?_
  refine WP.cond rfl (fun h2 => ?_) (fun h2 => ?_)
  · have h2 := of_decide_eq_true h2
    have ho2 : 0 ≤ (o : Int) ∧ (o : Int) ≤ 7 := ⟨by omega, by omega⟩
    refine WP.skip ?_
    refine WP.seq ?_
    refine WP.block ?_
    refine WP.seq ?_
    refine WP.region ?_
    refine RG.pv rfl (PV.mvI (.inl rfl) rfl) ?_
    refine RG.pv rfl (PV.mvI (.inr rfl) rfl) ?_
    refine RG.nil ?_
    refine WP.seq ?_
    refine WP.region ?_
    refine RG.ot rfl (OT.bslice (F := rectT) (els := []) rfl El35 rfl (by decide) rfl (by decide) trivial fun v20 => ?_)
    refine RG.pv rfl (PV.asg (v := v20) rfl rfl) ?_
    refine RG.nil ?_
    refine WP.seq ?_
    refine WP.seq ?_
    refine WP.region ?_
    refine RG.pv rfl (PV.move (v := v) rfl rfl) ?_
    refine RG.pv rfl (PV.len (v := v) rfl Tryz.underlying35 rfl (SlF.r h1)) ?_
    refine RG.pv rfl (PV.mvI (.inl rfl) rfl) ?_
    refine RG.nil ?_
    refine WP.block ?_
    refine WP.loop3 [0, 3, 4, 17, 21, 22] (fun (i : Nat) (ys : List Rect) (u : Value) => i ≤ xs.length ∧ ys = (xs.take i).map (moveR ⟨o, 0, 0⟩)) (fun (i : Nat) (ys : List Rect) (u : Value) => [(23, vi i), (5, u)]) (fun (i : Nat) (ys : List Rect) (u : Value) => osl 101 rectT u ys :: L) (fun (i : Nat) (ys : List Rect) (u : Value) => xs.length - i) 0 [] v20 ⟨by omega, rfl⟩ ⟨rfl, rfl, trivial⟩ Cv.p ?_
    rintro i ys u τ1 ⟨hi, hys⟩
    refine WP.seq ?_
    refine WP.region ?_
    refine RG.pv rfl (PV.lss rfl rfl rfl) ?_
    refine RG.nil ?_
    refine WP.seq ?_
    have hyl : ys.length = i := by rw [hys]; simp; omega
    refine WP.cond rfl (fun h3 => ?_) (fun h3 => ?_)
    · have h3 := of_decide_eq_true h3
      refine WP.skip ?_
      refine WP.seq ?_
      refine WP.block ?_
      refine WP.seq ?_
      refine WP.region ?_
      refine RG.pv rfl (PV.idxS (v := v) rfl Is35 rfl (SlF.r h1) rfl rfl (by omega)) ?_
      refine RG.pv rfl (PV.loadE rfl Ag101 rfl rfl (El.r h1 (getG (by omega)))) ?_
      refine RG.ot rfl (OT.alloc rfl Zr101 fun b7 => ?_)
      refine RG.ot rfl (OT.storeW (vs := [vi _, vi _, vi _, vi _]) rfl Sz101 rfl rfl (Cl.c rfl) rfl rfl (OneC.c rfl) ?_)
      refine RG.nil ?_
      refine WP.region ?_
      refine RG.pv rfl (PV.move (v := u) rfl rfl) ?_
      refine RG.pv rfl (PV.mvI (.inl rfl) rfl) ?_
      refine RG.pv rfl (PV.build (vs := [(0, [vi _])]) (out := [_, _, _]) rfl Zr190 Pl190 ⟨rfl, (Cl.c rfl), trivial⟩ rfl) ?_
      refine RG.pv rfl (PV.loadW rfl Ag101 rfl rfl) ?_
      refine RG.callF (vs := [_, _]) rfl rfl En183 rfl (moveRect_s (t := ⟨_, _, _⟩) ho2 (by simp) (RIn_gd hr (by omega)) ?_)
      refine RG.ot rfl (OT.bslice (F := rectT) (els := [_]) rfl El35 rfl (by decide) rfl (by decide) ⟨rfl, (Cl.c rfl), trivial⟩ fun v32 => ?_)
      refine RG.ot rfl (OT.append (v := u) (u := v32) (F := rectT) rfl El35 rfl (by decide) rfl rfl Rs.o (OneL.c (fun _ => rfl)) rfl (by first | omega | (simp <;> omega)) fun v33 => ?_)
      refine RG.pv rfl (PV.asg (v := v33) rfl rfl) ?_
      refine RG.nil ?_
      refine WP.region ?_
      refine RG.pv rfl (PV.add rfl rfl rfl (by omega)) ?_
      refine RG.pv rfl (PV.mvI (.inl rfl) rfl) ?_
      refine RG.nil ?_
      exact ⟨rfl, i + 1, (ys ++ [moveR ⟨o, 0, 0⟩ (gd xs i)]), v33, ⟨by omega, by rw [hys, imgs_take (by omega)]⟩, ⟨rfl, rfl, trivial⟩, ⟨rfl, rfl, rfl, rfl, rfl, rfl, trivial⟩, Cv.p, by omega⟩
    · have h3 := of_decide_eq_false h3
      have e : ys = imgs xs o := by rw [hys, List.take_of_length_le (by omega)]; rfl
      subst e
      have h0 : 0 < (imgs xs o).length := by omega
      have hri := imgs_in (o := (o : Int)) ⟨by omega, by omega⟩ hr
      have hbx := boxL_in h0 hri
      simp only [RIn] at hbx
      have hbx2 : ∀ i, i < (imgs xs o).length → RIn 40 (gd (imgs xs o) i) := fun i hi => RIn_gd hri hi
      refine WP.exit ?_
      refine WP.seq ?_
      refine WP.region ?_
      refine RG.pv rfl (PV.move (v := u) rfl rfl) ?_
      refine RG.callF (vs := [u]) rfl rfl En184 rfl (boxOf_s Rs.o h0 ?_)
      refine RG.pv rfl (PV.build0 rfl Tryz.underlying174 ⟨80, by kernel_rfl⟩ (zeroB_spec (n := 6400) (by kernel_rfl))) ?_
      refine RG.ot rfl (OT.boxG rfl rfl fun b38 => ?_)
      refine RG.ot rfl (OT.alloc rfl Zr101 fun b8 => ?_)
      refine RG.ot rfl (OT.storeW (vs := [vi _, vi _, vi _, vi _]) rfl Sz101 rfl rfl (Cl.c rfl) rfl rfl (OneC.c rfl) ?_)
      refine RG.pv rfl (PV.mvP (.inr rfl) rfl) ?_
      refine RG.nil ?_
      refine WP.seq ?_
      refine WP.regionQ (by kernel_rfl) (by kernel_rfl) ?_
      refine RQ.pv rfl (PV.field rfl Fo101_0 rfl) ?_
      refine RQ.pv rfl (PV.load1 rfl Sc2 rfl (Rd.blk rfl)) ?_
      refine RQ.pv rfl (PV.sub rfl rfl rfl (by omega)) ?_
      refine RQ.pv rfl (PV.field rfl Fo101_1 rfl) ?_
      refine RQ.pv rfl (PV.load1 rfl Sc2 rfl (Rd.blk rfl)) ?_
      refine RQ.pv rfl (PV.sub rfl rfl rfl (by omega)) ?_
      refine RQ.pv rfl (PV.mvI (.inr rfl) rfl) ?_
      refine RQ.pv rfl (PV.mvI (.inr rfl) rfl) ?_
      refine RQ.nil ?_
      refine WP.seq ?_
      refine WP.seq ?_
      refine WP.region ?_
      refine RG.pv rfl (PV.move (v := u) rfl rfl) ?_
      refine RG.pv rfl (PV.len (v := u) rfl Tryz.underlying35 rfl SlF.o) ?_
      refine RG.pv rfl (PV.mvI (.inl rfl) rfl) ?_
      refine RG.nil ?_
      refine WP.block ?_
      refine WP.loop2 [0, 3, 9, 10, 11, 17, 45, 46] (fun (i : Nat) (cs : List Bool) => i ≤ (imgs xs o).length ∧ cs.length = 6400 ∧ ∀ y x, y < 80 → x < 80 → gb cs y x = ((shifted (imgs xs o)).take i).any fun r => inR r y x) (fun (i : Nat) (cs : List Bool) => [(47, vi i)]) (fun (i : Nat) (cs : List Bool) => grd b38 cs :: osl 101 rectT u (imgs xs o) :: L) (fun (i : Nat) (cs : List Bool) => (imgs xs o).length - i) 0 (List.replicate 6400 false) ⟨by omega, by simp, fun y x _ _ => by rw [gb_rep]; simp⟩ ⟨rfl, trivial⟩ Cv.p ?_
      rintro i cs τ2 ⟨hi2, hlc, hc⟩
      refine WP.seq ?_
      refine WP.region ?_
      refine RG.pv rfl (PV.lss rfl rfl rfl) ?_
      refine RG.nil ?_
      refine WP.seq ?_
      refine WP.cond rfl (fun h4 => ?_) (fun h4 => ?_)
      · have h4 := of_decide_eq_true h4
        have hri2 := hbx2 i (by omega)
        simp only [RIn] at hri2
        refine WP.skip ?_
        refine WP.seq ?_
        refine WP.block ?_
        refine WP.seq ?_
        refine WP.region ?_
        refine RG.pv rfl (PV.idxS (v := u) rfl Is35 rfl SlF.o rfl rfl (by omega)) ?_
        refine RG.pv rfl (PV.loadE rfl Ag101 rfl rfl (El.o (getG (by omega)))) ?_
        refine RG.ot rfl (OT.alloc rfl Zr101 fun b13 => ?_)
        refine RG.ot rfl (OT.storeW (vs := [vi _, vi _, vi _, vi _]) rfl Sz101 rfl rfl (Cl.c rfl) rfl rfl (OneC.c rfl) ?_)
        refine RG.nil ?_
        refine WP.region ?_
        refine RG.pv rfl (PV.mvP (.inl rfl) rfl) ?_
        refine RG.pv rfl (PV.field rfl Fo101_0 rfl) ?_
        refine RG.pv rfl (PV.load1 rfl Sc2 rfl (Rd.blk rfl)) ?_
        refine RG.pv rfl (PV.mvI (.inl rfl) rfl) ?_
        refine RG.pv rfl (PV.add rfl rfl rfl (by omega)) ?_
        refine RG.pv rfl (PV.field rfl Fo101_1 rfl) ?_
        refine RG.pv rfl (PV.load1 rfl Sc2 rfl (Rd.blk rfl)) ?_
        refine RG.pv rfl (PV.mvI (.inl rfl) rfl) ?_
        refine RG.pv rfl (PV.add rfl rfl rfl (by omega)) ?_
        refine RG.pv rfl (PV.field rfl Fo101_2 rfl) ?_
        refine RG.pv rfl (PV.load1 rfl Sc2 rfl (Rd.blk rfl)) ?_
        refine RG.pv rfl (PV.mvI (.inl rfl) rfl) ?_
        refine RG.pv rfl (PV.add rfl rfl rfl (by omega)) ?_
        refine RG.pv rfl (PV.field rfl Fo101_3 rfl) ?_
        refine RG.pv rfl (PV.load1 rfl Sc2 rfl (Rd.blk rfl)) ?_
        refine RG.pv rfl (PV.mvI (.inl rfl) rfl) ?_
        refine RG.pv rfl (PV.add rfl rfl rfl (by omega)) ?_
        refine RG.pv rfl (PV.build (vs := [(0, [vi _]), (1, [vi _]), (2, [vi _]), (3, [vi _])]) (out := [_, _, _, _]) rfl Zr101 Pl101 ⟨rfl, (Cl.c rfl), ⟨rfl, (Cl.c rfl), ⟨rfl, (Cl.c rfl), ⟨rfl, (Cl.c rfl), trivial⟩⟩⟩⟩ rfl) ?_
        refine RG.callF (vs := [(.pointer (some ⟨b38, 0, none⟩)), _]) rfl rfl En185 rfl (CallT.exB (put_s (r := ⟨_, _, _, _⟩) (by assumption) (fun bs' hb' hg' => ?_)))
        refine RG.nil ?_
        refine WP.region ?_
        refine RG.pv rfl (PV.add rfl rfl rfl (by omega)) ?_
        refine RG.pv rfl (PV.mvI (.inl rfl) rfl) ?_
        refine RG.nil ?_
        refine ⟨rfl, i + 1, bs', ⟨by omega, hb', fun y x h5 h6 => ?_⟩, ⟨rfl, trivial⟩, ⟨rfl, rfl, rfl, rfl, rfl, rfl, rfl, rfl, trivial⟩, Cv.p, by omega⟩
        rw [hg' y x h5 h6, hc y x h5 h6, List.take_add_one, getG (by simp [shifted]; omega), shifted, gd_map _ (by omega), List.any_append]
        simp only [Option.toList_some, List.any_cons, List.any_nil, Bool.or_false]
      · have h4 := of_decide_eq_false h4
        have e : cs = bits (shifted (imgs xs o)) := bits_eq hlc fun y x h5 h6 => by rw [hc y x h5 h6, List.take_of_length_le (by simp [shifted]; omega)]
        subst e
        have hcb : ∀ i, i < (canon (bits (shifted (imgs xs o)))).length → _ := fun i hi => canon_bd hi
        have hcl := canon_len (bits (shifted (imgs xs o)))
        have hsg : sigO xs o = hashRs 17 (canon (bits (shifted (imgs xs o)))) := rfl
        refine WP.exit ?_
        refine WP.seq ?_
        refine WP.region ?_
        refine RG.pv rfl (PV.mvI (.inr rfl) rfl) ?_
        refine RG.nil ?_
        refine WP.seq ?_
        refine WP.seq ?_
        refine WP.region ?_
        refine RG.pv rfl (PV.mvP (.inl rfl) rfl) ?_
        refine RG.callF (vs := [(.pointer (some ⟨b38, 0, none⟩))]) rfl rfl En139 rfl (CallT.exB (region_s (bits_length _) (fun v72 => ?_)))
        refine RG.pv rfl (PV.len (v := v72) rfl Tryz.underlying35 rfl SlF.o) ?_
        refine RG.pv rfl (PV.mvI (.inl rfl) rfl) ?_
        refine RG.nil ?_
        refine WP.block ?_
        generalize canon (bits (shifted (imgs xs o))) = C at *
        refine WP.loop2 [0, 3, 17, 72, 73] (fun (j : Nat) (g : Int) => j ≤ C.length ∧ g = hashRs 17 (C.take j)) (fun (j : Nat) (g : Int) => [(74, vi j), (14, vi g)]) (fun (j : Nat) (g : Int) => osl 101 rectT v72 C :: L) (fun (j : Nat) (g : Int) => C.length - j) 0 17 ⟨by omega, rfl⟩ ⟨rfl, rfl, trivial⟩ Cv.p ?_
        rintro j g τ3 ⟨hj, hg⟩
        refine WP.seq ?_
        refine WP.region ?_
        refine RG.pv rfl (PV.lss rfl rfl rfl) ?_
        refine RG.nil ?_
        refine WP.seq ?_
        have hgb := hashRs_bd (h := 17) (C.take j) (by omega)
        rw [← hg] at hgb
        refine WP.cond rfl (fun h5 => ?_) (fun h5 => ?_)
        · have h5 := of_decide_eq_true h5
          obtain ⟨q1, q2, q3, q4, q5, q6, q7, q8⟩ := hcb j (by omega)
          refine WP.skip ?_
          refine WP.seq ?_
          refine WP.block ?_
          refine WP.seq ?_
          refine WP.region ?_
          refine RG.pv rfl (PV.idxS (v := v72) rfl Is35 rfl SlF.o rfl rfl (by omega)) ?_
          refine RG.pv rfl (PV.loadE rfl Ag101 rfl rfl (El.o (getG (by omega)))) ?_
          refine RG.ot rfl (OT.alloc rfl Zr101 fun b16 => ?_)
          refine RG.ot rfl (OT.storeW (vs := [vi _, vi _, vi _, vi _]) rfl Sz101 rfl rfl (Cl.c rfl) rfl rfl (OneC.c rfl) ?_)
          refine RG.nil ?_
          refine WP.region ?_
          refine RG.pv rfl (PV.mvI (.inl rfl) rfl) ?_
          refine RG.pv rfl (PV.field rfl Fo101_0 rfl) ?_
          refine RG.pv rfl (PV.load1 rfl Sc2 rfl (Rd.blk rfl)) ?_
          refine RG.pv rfl (PV.add rfl rfl rfl (by omega)) ?_
          refine RG.pv rfl (PV.field rfl Fo101_1 rfl) ?_
          refine RG.pv rfl (PV.load1 rfl Sc2 rfl (Rd.blk rfl)) ?_
          refine RG.pv rfl (PV.add rfl rfl rfl (by omega)) ?_
          refine RG.pv rfl (PV.field rfl Fo101_2 rfl) ?_
          refine RG.pv rfl (PV.load1 rfl Sc2 rfl (Rd.blk rfl)) ?_
          refine RG.pv rfl (PV.add rfl rfl rfl (by omega)) ?_
          refine RG.pv rfl (PV.field rfl Fo101_3 rfl) ?_
          refine RG.pv rfl (PV.load1 rfl Sc2 rfl (Rd.blk rfl)) ?_
          refine RG.pv rfl (PV.add rfl rfl rfl (by omega)) ?_
          refine RG.ot rfl (OT.bslice (F := intT) (els := [_, _, _, _]) rfl El134 rfl (by decide) rfl (by decide) ⟨rfl, (Cl.c rfl), ⟨rfl, (Cl.c rfl), ⟨rfl, (Cl.c rfl), ⟨rfl, (Cl.c rfl), trivial⟩⟩⟩⟩ fun v91 => ?_)
          refine RG.callF (vs := [_, v91]) rfl rfl En128 rfl (hash_s Rs.o hgb (four_bd (by omega) (by omega) (by omega) (by omega)) ?_)
          refine RG.pv rfl (PV.mvI (.inr rfl) rfl) ?_
          refine RG.nil ?_
          refine WP.region ?_
          refine RG.pv rfl (PV.add rfl rfl rfl (by omega)) ?_
          refine RG.pv rfl (PV.mvI (.inl rfl) rfl) ?_
          refine RG.nil ?_
          exact ⟨rfl, j + 1, _, ⟨by omega, by rw [hashRs_take (by omega), ← hg]; rfl⟩, ⟨rfl, rfl, trivial⟩, ⟨rfl, rfl, rfl, rfl, rfl, trivial⟩, Cv.p, by omega⟩
        · have h5 := of_decide_eq_false h5
          have e : sigO xs o = g := by rw [hsg, hg, List.take_of_length_le (by omega)]
          have hsb := sigTo_bd xs (o - 1)
          refine WP.exit ?_
          refine WP.seq ?_
          refine WP.region ?_
          refine RG.pv rfl (PV.mvI (.inl rfl) rfl) ?_
          refine RG.pv rfl (PV.lss rfl rfl rfl) ?_
          refine RG.pv rfl (PV.mvB (.inl rfl) rfl) ?_
          refine RG.gs rfl rfl rfl (fun hp => (PV.mvI (.inl rfl) rfl)) ?_
          refine RG.gs rfl rfl rfl (fun hp => (PV.mvI (.inl rfl) rfl)) ?_
          refine RG.gs rfl rfl rfl (fun hp => (PV.lss rfl (gs_t hp) (gs_t hp))) ?_
          refine RG.pv rfl (PV.pickO rfl rfl rfl (fun hq => gs_t (geqF hq))) ?_
          refine RG.nil ?_
          refine WP.cond rfl (fun h6 => ?_) (fun h6 => ?_)
          · refine WP.region ?_
            refine RG.pv rfl (PV.mvI (.inl rfl) rfl) ?_
            refine RG.pv rfl (PV.mvI (.inr rfl) rfl) ?_
            refine RG.nil ?_
            refine WP.region ?_
            refine RG.pv rfl (PV.add rfl rfl rfl (by omega)) ?_
            refine RG.pv rfl (PV.mvI (.inl rfl) rfl) ?_
            refine RG.nil ?_
            refine ⟨rfl, o + 1, _, ⟨by omega, ?_⟩, ⟨rfl, rfl, trivial⟩, ⟨rfl, trivial⟩, Cv.p, by omega⟩
            by_cases c : o = 0
            · subst c; simp [sigTo, ← e]
            · rw [if_neg c] at hm
              have e2 : sigTo xs o = min (sigTo xs (o - 1)) (sigO xs o) := by
                rw [show o = (o - 1) + 1 by omega, sigTo, Nat.add_sub_cancel, show ((o - 1 : Nat) : Int) + 1 = ((o - 1 + 1 : Nat) : Int) by omega]
              simp at h6
              rw [if_neg (by omega), Nat.add_sub_cancel, e2, e, ← hm]; omega
          · refine WP.skip ?_
            refine WP.region ?_
            refine RG.pv rfl (PV.add rfl rfl rfl (by omega)) ?_
            refine RG.pv rfl (PV.mvI (.inl rfl) rfl) ?_
            refine RG.nil ?_
            refine ⟨rfl, o + 1, _, ⟨by omega, ?_⟩, ⟨rfl, rfl, trivial⟩, ⟨rfl, trivial⟩, Cv.p, by omega⟩
            by_cases c : o = 0
            · subst c; simp [hm] at h6
            · rw [if_neg c] at hm
              have e2 : sigTo xs o = min (sigTo xs (o - 1)) (sigO xs o) := by
                rw [show o = (o - 1) + 1 by omega, sigTo, Nat.add_sub_cancel, show ((o - 1 : Nat) : Int) + 1 = ((o - 1 + 1 : Nat) : Int) by omega]
              simp at h6
              rw [if_neg (by omega), Nat.add_sub_cancel, e2, e, ← hm]; omega
  · have h2 := of_decide_eq_false h2
    have e : sigTo xs 7 = m := by rw [hm, if_neg (by omega), show o - 1 = 7 by omega]
    rw [e] at k
    refine WP.exit ?_
    refine WP.seq ?_
    refine WP.region ?_
    refine RG.pv rfl (PV.mvI (.inl rfl) rfl) ?_
    refine RG.pv rfl (PV.mvI (.inr rfl) rfl) ?_
    refine RG.nil ?_
    refine WP.ret ?_
    exact ⟨_, _, ResV.one rfl rfl, Cv.p, k⟩
end Go.Proofs.YtgngpegmaceaiaaGreat
namespace Go.Proofs.YtgngpegmaceaiaaGreat
set_option linter.unusedVariables false
set_option linter.unusedSimpArgs false
def rcnt (r : Nat → Bool) (x : Nat) : Nat := if x < 80 then (bif r x then 1 else 0) + rcnt r (x + 1) else 0
termination_by 80 - x
theorem rcnt_congr {r q : Nat → Bool} (h : ∀ x, x < 80 → r x = q x) (x : Nat) : rcnt r x = rcnt q x := by
  rw [rcnt.eq_1 r x, rcnt.eq_1 q x]
  by_cases hx : x < 80
  · rw [if_pos hx, if_pos hx, h x hx, rcnt_congr h (x + 1)]
  · rw [if_neg hx, if_neg hx]
termination_by 80 - x
theorem rcnt_run (r : Nat → Bool) (x : Nat) (hx : x ≤ 80) : rcnt r x = (runEnd r x - x) + rcnt r (runEnd r x) := by
  rw [runEnd]
  by_cases h : x < 80 ∧ r x = true
  · rw [if_pos h]
    have ih := rcnt_run r (x + 1) (by omega)
    have h1 := runEnd_ge r (x + 1)
    rw [rcnt, if_pos h.1, h.2, ih]; simp only [cond_true]; omega
  · rw [if_neg h]; omega
termination_by 80 - x
theorem rcnt_skip (r : Nat → Bool) (x : Nat) (h : has r x = false) : rcnt r x = rcnt r (x + 1) := by
  rw [rcnt]
  by_cases hx : x < 80
  · rw [if_pos hx]
    have : r x = false := by simpa [has, hx] using h
    rw [this]; simp
  · rw [if_neg hx, rcnt, if_neg (by omega)]
theorem wsum_rcnt (r : Nat → Bool) (x : Nat) : wsum (runsFrom r x) = rcnt r x := by
  rw [runsFrom]
  by_cases hx : x < 80
  · rw [if_pos hx]
    by_cases hr : r x = true
    · rw [if_pos hr]
      have h1 := runEnd_ge r (x + 1)
      have ih := wsum_rcnt r (runEnd r (x + 1) + 1)
      have h2 := rcnt_run r (x + 1) (by omega)
      have h3 := rcnt_skip r (runEnd r (x + 1)) (runEnd_has r _)
      rw [rcnt, if_pos hx, hr, h2, h3, wsum, ih]; simp only [cond_true]; omega
    · rw [if_neg hr, wsum_rcnt r (x + 1)]
      rw [rcnt_skip r x (by simp [has, hr])]
  · rw [if_neg hx, rcnt, if_neg hx]; rfl
termination_by 80 - x
decreasing_by
  · have := runEnd_ge r (x + 1); omega
  · omega
def gcnt (bs : List Bool) (y : Nat) : Nat := if y < 80 then rcnt (gb bs y) 0 + gcnt bs (y + 1) else 0
termination_by 80 - y
theorem gcnt_run (bs : List Bool) (c : Nat) : ∀ (n y : Nat), y + n ≤ 80 → (∀ z, y ≤ z → z < y + n → rcnt (gb bs z) 0 = c) → gcnt bs y = n * c + gcnt bs (y + n)
  | 0, y, _, _ => by simp
  | n + 1, y, hy, h => by
    have ih := gcnt_run bs c n (y + 1) (by omega) (fun z h1 h2 => h z (by omega) (by omega))
    rw [gcnt, if_pos (by omega), h y (by omega) (by omega), ih, Nat.add_mul, Nat.one_mul, show y + 1 + n = y + (n + 1) by omega]; omega
theorem area_gcnt (bs : List Bool) (y : Nat) : areaS (canonFrom bs y) = ((gcnt bs y : Nat) : Int) := by
  rw [canonFrom]
  by_cases h : y < 80
  · rw [if_pos h, areaS_append]
    have h1 := endFrom_ge bs y (y + 1)
    have h2 := endFrom_le bs y (y + 1) (by omega)
    have ih := area_gcnt bs (endFrom bs y (y + 1))
    rw [area_map (by omega) _ (runs_mem _ _), ih, wsum_rcnt]
    have h3 := gcnt_run bs (rcnt (gb bs y) 0) (endFrom bs y (y + 1) - y) y (by omega) (fun z hz1 hz2 => by
      by_cases c : z = y
      · rw [c]
      · exact rcnt_congr (rowsEq_gb' (endFrom_eq bs y (y + 1) z (by omega) (by omega))) 0)
    rw [h3, show y + (endFrom bs y (y + 1) - y) = endFrom bs y (y + 1) by omega, Nat.mul_comm]; omega
  · rw [if_neg h, gcnt, if_neg h]; rfl
termination_by 80 - y
decreasing_by have := endFrom_ge bs y (y + 1); omega
theorem row_cnt {bs : List Bool} (hl : bs.length = 6400) (y : Nat) (hy : y < 80) : ∀ (n x : Nat), x + n = 80 → ((bs.drop (y * 80 + x)).take n).count true = rcnt (gb bs y) x
  | 0, x, h => by rw [rcnt, if_neg (by omega)]; simp
  | n + 1, x, h => by
    have ih := row_cnt hl y hy n (x + 1) (by omega)
    have hlt : y * 80 + x < bs.length := by omega
    rw [List.drop_eq_getElem_cons hlt, List.take_succ_cons, List.count_cons, rcnt.eq_1 _ x, if_pos (show x < 80 by omega), show y * 80 + x + 1 = y * 80 + (x + 1) by omega, ih, gb, gd_eq hlt]
    cases bs[y * 80 + x] <;> simp [Nat.add_comm]
theorem count_gcnt {bs : List Bool} (hl : bs.length = 6400) (y : Nat) : (bs.drop (y * 80)).count true = gcnt bs y := by
  rw [gcnt]
  by_cases h : y < 80
  · rw [if_pos h, ← count_gcnt hl (y + 1), ← row_cnt hl y h 80 0 (by omega)]
    have e : bs.drop ((y + 1) * 80) = (bs.drop (y * 80)).drop 80 := by rw [List.drop_drop]; congr 1; omega
    rw [e, Nat.add_zero, ← List.count_append, List.take_append_drop]
  · rw [if_neg h, List.drop_eq_nil_of_le (by omega)]; rfl
termination_by 80 - y
/-- the number of cells of a set -/
def cnt (bs : List Bool) : Int := bs.count true
theorem cnt_canon {bs : List Bool} (hl : bs.length = 6400) : areaS (canon bs) = cnt bs := by
  rw [canon, area_gcnt, ← count_gcnt hl 0]; simp [cnt]
theorem cnt_take {bs : List Bool} {i : Nat} (h : i < bs.length) : cnt (bs.take (i + 1)) = cnt (bs.take i) + (bif gd bs i then 1 else 0) := by
  rw [List.take_add_one, getG h, cnt, cnt, List.count_append]
  cases gd bs i <;> simp
theorem cnt_le (bs : List Bool) : 0 ≤ cnt bs ∧ cnt bs ≤ bs.length := by
  have := List.count_le_length (a := true) (l := bs)
  simp only [cnt]; omega
end Go.Proofs.YtgngpegmaceaiaaGreat
namespace Go.Proofs.YtgngpegmaceaiaaGreat
set_option linter.unusedVariables false
set_option linter.unusedSimpArgs false
def inI (n lo hi : Int) : Bool := decide (lo ≤ n) && decide (n ≤ hi)
def hasC (bs : List Bool) (x y : Int) : Bool := inI x (-40) 39 && inI y (-40) 39 && gd bs ((y + 40) * 80 + x + 40).toNat
theorem hasC_gb {bs : List Bool} {y x : Nat} (hy : y < 80) (hx : x < 80) : hasC bs ((x : Int) - 40) ((y : Int) - 40) = gb bs y x := by
  have h1 : inI ((x : Int) - 40) (-40) 39 = true := by simp [inI]; omega
  have h2 : inI ((y : Int) - 40) (-40) 39 = true := by simp [inI]; omega
  have h3 : (((y : Int) - 40 + 40) * 80 + ((x : Int) - 40) + 40).toNat = y * 80 + x := by omega
  rw [hasC, h1, h2, h3, gb]; rfl
theorem hasC_iff {bs : List Bool} {x y : Int} : hasC bs x y = true ↔ ∃ y' x' : Nat, y' < 80 ∧ x' < 80 ∧ (y' : Int) = y + 40 ∧ (x' : Int) = x + 40 ∧ gb bs y' x' = true := by
  constructor
  · intro h
    have h' := h
    simp only [hasC, inI, Bool.and_eq_true, decide_eq_true_eq] at h
    refine ⟨(y + 40).toNat, (x + 40).toNat, by omega, by omega, by omega, by omega, ?_⟩
    rw [← hasC_gb (by omega) (by omega)]
    rw [show (((x + 40).toNat : Nat) : Int) - 40 = x by omega, show (((y + 40).toNat : Nat) : Int) - 40 = y by omega]; exact h'
  · rintro ⟨y', x', h1, h2, h3, h4, h5⟩
    rw [← hasC_gb h1 h2] at h5
    rwa [show (x' : Int) - 40 = x by omega, show (y' : Int) - 40 = y by omega] at h5
def anyTo (c : Int → Bool) (k d : Int) : Bool := (List.range (d + k).toNat).any fun n => c ((n : Int) - k)
theorem anyTo_zero (c : Int → Bool) (k : Int) : anyTo c k (-k) = false := by
  rw [anyTo, show (-k + k).toNat = 0 by omega]; rfl
theorem anyTo_succ (c : Int → Bool) {k d : Int} (h : -k ≤ d) : anyTo c k (d + 1) = (anyTo c k d || c d) := by
  rw [anyTo, anyTo, show (d + 1 + k).toNat = (d + k).toNat + 1 by omega, List.range_succ, List.any_append]
  simp only [List.any_cons, List.any_nil, Bool.or_false]
  rw [show (((d + k).toNat : Nat) : Int) - k = d by omega]
theorem anyTo_iff (c : Int → Bool) (k d : Int) : anyTo c k d = true ↔ ∃ e, -k ≤ e ∧ e < d ∧ c e = true := by
  rw [anyTo, List.any_eq_true]
  constructor
  · rintro ⟨n, hn, hc⟩
    rw [List.mem_range] at hn
    exact ⟨n - k, by omega, by omega, hc⟩
  · rintro ⟨e, h1, h2, h3⟩
    exact ⟨(e + k).toNat, by rw [List.mem_range]; omega, by rw [show (((e + k).toNat : Nat) : Int) - k = e by omega]; exact h3⟩
/-- a cell's neighbours along a row (ac) or a column -/
def cnd (ac : Bool) (bs : List Bool) (x y d : Int) : Bool := (ac && hasC bs (x + d) y) || (!ac && hasC bs x (y + d))
def rowG (ac : Bool) (bs : List Bool) (k : Int) (y x : Nat) : Bool := anyTo (cnd ac bs ((x : Int) - 40) ((y : Int) - 40)) k (k + 1)
def rowBits (ac : Bool) (bs : List Bool) (k : Int) : List Bool := (List.range 6400).map fun j => rowG ac bs k (j / 80) (j % 80)
theorem rowBits_len (ac : Bool) (bs : List Bool) (k : Int) : (rowBits ac bs k).length = 6400 := by simp [rowBits]
theorem gb_row {ac : Bool} {bs : List Bool} {k : Int} {y x : Nat} (hy : y < 80) (hx : x < 80) : gb (rowBits ac bs k) y x = rowG ac bs k y x := by
  have h : y * 80 + x < 6400 := by omega
  have e1 : (y * 80 + x) / 80 = y := by omega
  have e2 : (y * 80 + x) % 80 = x := by omega
  rw [gb, gd_eq (by rw [rowBits_len]; exact h)]
  simp [rowBits, e1, e2]
theorem gb_ext {az bs : List Bool} (h : az.length = 6400) (h' : bs.length = 6400) (hg : ∀ y x, y < 80 → x < 80 → gb az y x = gb bs y x) : az = bs := by
  apply List.ext_getElem?
  intro k
  by_cases hk : k < 6400
  · have h1 := hg (k / 80) (k % 80) (by omega) (by omega)
    have e : k / 80 * 80 + k % 80 = k := by omega
    rw [gb, gb, e] at h1
    rw [getG (by omega), getG (by omega), h1]
  · rw [List.getElem?_eq_none (by omega), List.getElem?_eq_none (by omega)]
theorem rowG_across {bs : List Bool} {k : Int} {y x : Nat} (hy : y < 80) : rowG true bs k y x = true ↔ ∃ x' : Nat, x' < 80 ∧ (x : Int) - k ≤ x' ∧ (x' : Int) ≤ x + k ∧ gb bs y x' = true := by
  rw [rowG, anyTo_iff]
  constructor
  · rintro ⟨e, h1, h2, h3⟩
    simp only [cnd, Bool.true_and, Bool.not_true, Bool.false_and, Bool.or_false] at h3
    obtain ⟨y', x', q1, q2, q3, q4, q5⟩ := hasC_iff.1 h3
    have : y' = y := by omega
    subst this
    exact ⟨x', q2, by omega, by omega, q5⟩
  · rintro ⟨x', h1, h2, h3, h4⟩
    refine ⟨(x' : Int) - x, by omega, by omega, ?_⟩
    simp only [cnd, Bool.true_and, Bool.not_true, Bool.false_and, Bool.or_false]
    exact hasC_iff.2 ⟨y, x', hy, h1, by omega, by omega, h4⟩
theorem rowG_down {bs : List Bool} {k : Int} {y x : Nat} (hx : x < 80) : rowG false bs k y x = true ↔ ∃ y' : Nat, y' < 80 ∧ (y : Int) - k ≤ y' ∧ (y' : Int) ≤ y + k ∧ gb bs y' x = true := by
  rw [rowG, anyTo_iff]
  constructor
  · rintro ⟨e, h1, h2, h3⟩
    simp only [cnd, Bool.false_and, Bool.not_false, Bool.true_and, Bool.false_or] at h3
    obtain ⟨y', x', q1, q2, q3, q4, q5⟩ := hasC_iff.1 h3
    have : x' = x := by omega
    subst this
    exact ⟨y', q1, by omega, by omega, q5⟩
  · rintro ⟨y', h1, h2, h3, h4⟩
    refine ⟨(y' : Int) - y, by omega, by omega, ?_⟩
    simp only [cnd, Bool.false_and, Bool.not_false, Bool.true_and, Bool.false_or]
    exact hasC_iff.2 ⟨y', x, h1, hx, by omega, by omega, h4⟩
def growB (bs : List Bool) (k : Int) : List Bool := rowBits false (rowBits true bs k) k
theorem growB_len (bs : List Bool) (k : Int) : (growB bs k).length = 6400 := rowBits_len _ _ _
theorem growB_iff {bs : List Bool} {k : Int} {y x : Nat} (hy : y < 80) (hx : x < 80) : gb (growB bs k) y x = true ↔ ∃ y' x' : Nat, y' < 80 ∧ x' < 80 ∧ (y : Int) - k ≤ y' ∧ (y' : Int) ≤ y + k ∧ (x : Int) - k ≤ x' ∧ (x' : Int) ≤ x + k ∧ gb bs y' x' = true := by
  rw [growB, gb_row hy hx, rowG_down hx]
  constructor
  · rintro ⟨y', h1, h2, h3, h4⟩
    rw [gb_row h1 hx, rowG_across h1] at h4
    obtain ⟨x', q1, q2, q3, q4⟩ := h4
    exact ⟨y', x', h1, q1, h2, h3, q2, q3, q4⟩
  · rintro ⟨y', x', h1, h2, h3, h4, h5, h6, h7⟩
    exact ⟨y', h1, h3, h4, by rw [gb_row h1 hx, rowG_across h1]; exact ⟨x', h2, h5, h6, h7⟩⟩
@[reducible] def enl (k : Int) (r : Rect) : Rect := ⟨r.x0 - k, r.y0 - k, r.x1 + k, r.y1 + k⟩
theorem gb_bits' (rs : List Rect) {y x : Nat} (hy : y < 80) (hx : x < 80) : gb (bits rs) y x = rs.any fun r => inR r y x := by
  have h : y * 80 + x < 6400 := by omega
  have e1 : (y * 80 + x) / 80 = y := by omega
  have e2 : (y * 80 + x) % 80 = x := by omega
  rw [gb, gd_eq (by rw [bits_length]; exact h)]
  simp [bits, e1, e2]
theorem clamp {lo hi y k : Int} (h0 : 0 ≤ lo) (h : lo < hi) (hk : 0 ≤ k) (h1 : lo - k ≤ y) (h2 : y < hi + k) : ∃ c : Nat, lo ≤ c ∧ (c : Int) < hi ∧ y - k ≤ c ∧ (c : Int) ≤ y + k := by
  by_cases a : y < lo
  · exact ⟨lo.toNat, by omega, by omega, by omega, by omega⟩
  · by_cases b : y < hi
    · exact ⟨y.toNat, by omega, by omega, by omega, by omega⟩
    · exact ⟨(hi - 1).toNat, by omega, by omega, by omega, by omega⟩
theorem grow_enl {xs : List Rect} {k : Int} (hk : 0 ≤ k) (hx : ∀ r ∈ xs, -40 ≤ r.x0 ∧ r.x0 < r.x1 ∧ r.x1 ≤ 40 ∧ -40 ≤ r.y0 ∧ r.y0 < r.y1 ∧ r.y1 ≤ 40) {y x : Nat} (hy : y < 80) (hx' : x < 80) : (xs.any fun r => inR (enl k r) y x) = gb (growB (bits xs) k) y x := by
  rw [Bool.eq_iff_iff, growB_iff hy hx', List.any_eq_true]
  constructor
  · rintro ⟨r, hr, h⟩
    have hb := hx r hr
    simp [inR, enl] at h
    obtain ⟨y', a1, a2, a3, a4⟩ := clamp (lo := r.y0 + 40) (hi := r.y1 + 40) (y := (y : Int)) (k := k) (by omega) (by omega) hk (by omega) (by omega)
    obtain ⟨x', b1, b2, b3, b4⟩ := clamp (lo := r.x0 + 40) (hi := r.x1 + 40) (y := (x : Int)) (k := k) (by omega) (by omega) hk (by omega) (by omega)
    refine ⟨y', x', by omega, by omega, a3, a4, b3, b4, ?_⟩
    rw [gb_bits' xs (by omega) (by omega), List.any_eq_true]
    refine ⟨r, hr, ?_⟩
    simp [inR]; omega
  · rintro ⟨y', x', h1, h2, h3, h4, h5, h6, h7⟩
    rw [gb_bits' xs h1 h2, List.any_eq_true] at h7
    obtain ⟨r, hr, h⟩ := h7
    refine ⟨r, hr, ?_⟩
    simp [inR, enl] at h ⊢; omega
theorem area_pos {r : Rect} (h : r.x0 < r.x1 ∧ r.y0 < r.y1) : 0 < areaR r := Int.mul_pos (by omega) (by omega)
theorem canon_nil {bs : List Bool} (hl : bs.length = 6400) : (canon bs).length = 0 ↔ cnt bs = 0 := by
  rw [← cnt_canon hl]
  constructor
  · intro h; rw [List.eq_nil_of_length_eq_zero h]; rfl
  · intro h
    rcases hc : canon bs with _ | ⟨r, l⟩
    · rfl
    · exfalso
      have hm := canonFrom_mem bs 0
      have hc' : canonFrom bs 0 = r :: l := hc
      rw [hc'] at hm
      have h1 := area_pos (r := r) (by have := hm r (.head _); omega)
      have h2 : ∀ m : List Rect, (∀ q ∈ m, q.x0 < q.x1 ∧ q.y0 < q.y1) → 0 ≤ areaS m := by
        intro m
        induction m with
        | nil => intro _; exact Int.le_refl _
        | cons q m ih =>
          intro hq
          have a := area_pos (hq q (.head _))
          have b := ih fun p hp => hq p (.tail _ hp)
          simp only [areaS]; omega
      have h3 := h2 l fun q hq => by have := hm q (.tail _ hq); omega
      rw [hc, areaS] at h; omega
end Go.Proofs.YtgngpegmaceaiaaGreat
namespace Go.Proofs.YtgngpegmaceaiaaGreat
set_option linter.unusedVariables false
set_option linter.unusedSimpArgs false
abbrev Cel := Nat × Nat
def Adj (a b : Cel) : Prop := (a.1 = b.1 ∧ (a.2 = b.2 + 1 ∨ b.2 = a.2 + 1)) ∨ (a.2 = b.2 ∧ (a.1 = b.1 + 1 ∨ b.1 = a.1 + 1))
theorem Adj.symm {a b : Cel} (h : Adj a b) : Adj b a := by
  rcases h with ⟨h1, h2⟩ | ⟨h1, h2⟩
  · exact .inl ⟨h1.symm, h2.symm⟩
  · exact .inr ⟨h1.symm, h2.symm⟩
/-- the cell is on the chip and set -/
def On (S : List Bool) (a : Cel) : Prop := a.1 < 80 ∧ a.2 < 80 ∧ gb S a.1 a.2 = true
inductive Conn (S : List Bool) (a : Cel) : Cel → Prop where
  | refl : Conn S a a
  | step {b c : Cel} : Conn S a b → Adj b c → On S c → Conn S a c
theorem Conn.on {S : List Bool} {a b : Cel} (h : Conn S a b) (ha : On S a) : On S b := by
  cases h with
  | refl => exact ha
  | step _ _ h => exact h
theorem Conn.trans {S : List Bool} {a b c : Cel} (h : Conn S a b) (k : Conn S b c) : Conn S a c := by
  induction k with
  | refl => exact h
  | step _ h1 h2 ih => exact ih.step h1 h2
theorem Conn.symm {S : List Bool} {a b : Cel} (h : Conn S a b) (ha : On S a) : Conn S b a := by
  induction h with
  | refl => exact .refl
  | step h1 h2 h3 ih => exact (Conn.step .refl h2.symm (h1.on ha)).trans ih
/-- a set that is closed under the neighbours of another, within it -/
theorem Conn.sub {S T : List Bool} {a b : Cel} (h : Conn S a b) (ha : On T a) (hc : ∀ p q, On T p → Adj p q → On S q → On T q) : Conn T a b ∧ On T b := by
  induction h with
  | refl => exact ⟨.refl, ha⟩
  | step h1 h2 h3 ih =>
    have := hc _ _ ih.2 h2 h3
    exact ⟨ih.1.step h2 this, this⟩
theorem Conn.mono {S T : List Bool} {a b : Cel} (h : Conn T a b) (hc : ∀ p, On T p → On S p) : Conn S a b := by
  induction h with
  | refl => exact .refl
  | step h1 h2 h3 ih => exact ih.step h2 (hc _ h3)
open Classical in
noncomputable def compB (S : List Bool) (a : Cel) : List Bool := (List.range 6400).map fun j => decide (Conn S a (j / 80, j % 80))
theorem compB_len (S : List Bool) (a : Cel) : (compB S a).length = 6400 := by simp [compB]
open Classical in
theorem gb_comp {S : List Bool} {a : Cel} {y x : Nat} (hy : y < 80) (hx : x < 80) : gb (compB S a) y x = decide (Conn S a (y, x)) := by
  have h : y * 80 + x < 6400 := by omega
  have e1 : (y * 80 + x) / 80 = y := by omega
  have e2 : (y * 80 + x) % 80 = x := by omega
  rw [gb, gd_eq (by rw [compB_len]; exact h)]
  simp [compB, e1, e2]
theorem comp_iff {S : List Bool} {a : Cel} {y x : Nat} (hy : y < 80) (hx : x < 80) : gb (compB S a) y x = true ↔ Conn S a (y, x) := by
  rw [gb_comp hy hx]; simp
/-- a set that holds the seed, is connected with it and closed, is its component -/
theorem comp_of {S out : List Bool} {a : Cel} (hl : out.length = 6400) (ha : On S a) (ho : On out a) (hconn : ∀ b, On out b → Conn S a b) (hcl : ∀ b c, On out b → Adj b c → On S c → On out c) : out = compB S a := by
  refine gb_ext hl (compB_len _ _) fun y x hy hx => ?_
  rw [Bool.eq_iff_iff, comp_iff hy hx]
  constructor
  · intro h; exact hconn (y, x) ⟨hy, hx, h⟩
  · intro h
    exact (h.sub ho hcl).2.2.2
def pos (a : Cel) : Nat := a.1 * 80 + a.2
def cel (j : Nat) : Cel := (j / 80, j % 80)
theorem pos_cel (j : Nat) : pos (cel j) = j := by simp [pos, cel]; omega
theorem cel_pos {a : Cel} (h : a.2 < 80) : cel (pos a) = a := by
  obtain ⟨y, x⟩ := a
  simp only [cel, pos, Prod.mk.injEq] at *
  omega
/-- the cell comes first in its component -/
def First (S : List Bool) (j : Nat) : Prop := On S (cel j) ∧ ∀ i, i < j → On S (cel i) → ¬ Conn S (cel i) (cel j)
open Classical in
noncomputable def firsts (S : List Bool) (n : Nat) : List Nat := (List.range n).filter fun j => decide (First S j)
noncomputable def comps (S : List Bool) : List (List Bool) := (firsts S 6400).map fun j => compB S (cel j)
open Classical in
theorem firsts_succ (S : List Bool) (n : Nat) : firsts S (n + 1) = if First S n then firsts S n ++ [n] else firsts S n := by
  rw [firsts, List.range_succ, List.filter_append]
  by_cases h : First S n <;> simp [h, firsts]
/-- what is left before the n-th cell is looked at -/
def Left (S : List Bool) (n : Nat) (a : Cel) : Prop := On S a ∧ ∀ i, i < n → On S (cel i) → ¬ Conn S (cel i) a
theorem left_zero {S : List Bool} {a : Cel} : Left S 0 a ↔ On S a := ⟨fun h => h.1, fun h => ⟨h, fun i hi => by omega⟩⟩
theorem left_first {S : List Bool} {n : Nat} : Left S n (cel n) ↔ First S n := Iff.rfl
theorem left_closed {S : List Bool} {n : Nat} {p q : Cel} (h : Left S n p) (ha : Adj p q) (hq : On S q) : Left S n q :=
  ⟨hq, fun i hi ho hc => h.2 i hi ho (hc.step ha.symm h.1)⟩
/-- the component within what is left is the component -/
theorem comp_left {S T : List Bool} {n : Nat} (hT : ∀ a : Cel, On T a ↔ Left S n a) {a : Cel} (ha : Left S n a) : compB T a = compB S a := by
  refine comp_of (compB_len _ _) ha.1 ⟨((hT a).2 ha).1, ((hT a).2 ha).2.1, (comp_iff ((hT a).2 ha).1 ((hT a).2 ha).2.1).2 .refl⟩ (fun b hb => ?_) (fun b c hb hbc hc => ?_)
  · exact ((comp_iff hb.1 hb.2.1).1 hb.2.2).mono fun p hp => ((hT p).1 hp).1
  · have h1 := (comp_iff hb.1 hb.2.1).1 hb.2.2
    have h2 := h1.on ((hT a).2 ha)
    have h3 := left_closed ((hT _).1 h2) hbc hc
    exact ⟨hc.1, hc.2.1, (comp_iff hc.1 hc.2.1).2 (h1.step hbc ((hT c).2 h3))⟩
theorem left_succ_skip {S : List Bool} {n : Nat} (h : ¬ First S n) {a : Cel} : Left S (n + 1) a ↔ Left S n a := by
  constructor
  · exact fun k => ⟨k.1, fun i hi => k.2 i (by omega)⟩
  · intro k
    refine ⟨k.1, fun i hi ho hc => ?_⟩
    by_cases e : i = n
    · subst e
      apply h
      exact ⟨ho, fun j hj hoj hcj => k.2 j hj hoj (hcj.trans hc)⟩
    · exact k.2 i (by omega) ho hc
theorem left_succ_take {S : List Bool} {n : Nat} (h : First S n) {a : Cel} : Left S (n + 1) a ↔ Left S n a ∧ ¬ Conn S (cel n) a := by
  constructor
  · exact fun k => ⟨⟨k.1, fun i hi => k.2 i (by omega)⟩, k.2 n (by omega) h.1⟩
  · rintro ⟨k, hn⟩
    refine ⟨k.1, fun i hi ho hc => ?_⟩
    by_cases e : i = n
    · subst e; exact hn hc
    · exact k.2 i (by omega) ho hc
end Go.Proofs.YtgngpegmaceaiaaGreat
namespace Go.Proofs.YtgngpegmaceaiaaGreat
set_option linter.unusedVariables false
set_option linter.unusedSimpArgs false
def qc (q : Int × Int) : Cel := (q.2.toNat, q.1.toNat)
structure FI (S : List Bool) (a : Cel) (O : List Bool) (Q : List (Int × Int)) : Prop where
  len : O.length = 6400
  bd : ∀ i, i < Q.length → 0 ≤ (gd Q i).1 ∧ (gd Q i).1 < 80 ∧ 0 ≤ (gd Q i).2 ∧ (gd Q i).2 < 80
  on : ∀ i, i < Q.length → On O (qc (gd Q i))
  all : ∀ c, On O c → ∃ i, i < Q.length ∧ qc (gd Q i) = c
  conn : ∀ i, i < Q.length → Conn S a (qc (gd Q i))
  cnt : cnt O = Q.length
theorem gd_app_l {α : Type} [Inhabited α] {xs ys : List α} {i : Nat} (h : i < xs.length) : gd (xs ++ ys) i = gd xs i := by
  simp only [gd, List.getElem?_append_left h]
theorem gd_app_r {α : Type} [Inhabited α] {xs : List α} {a : α} : gd (xs ++ [a]) xs.length = a := by
  simp [gd]
theorem gb_set' {bs : List Bool} {y x y' x' : Nat} {q : Bool} (h : bs.length = 6400) (hy : y < 80) (hx : x < 80) (hx' : x' < 80) : gb (bs.set (y * 80 + x) q) y' x' = if y' = y ∧ x' = x then q else gb bs y' x' := by
  unfold gb gd
  rw [List.getElem?_set]
  by_cases e : y * 80 + x = y' * 80 + x'
  · have e1 : y' = y ∧ x' = x := by omega
    rw [if_pos e, if_pos e1, if_pos (by omega)]; rfl
  · have e1 : ¬ (y' = y ∧ x' = x) := by omega
    rw [if_neg e, if_neg e1]
theorem cnt_set {bs : List Bool} {k : Nat} (h : k < bs.length) (hk : gd bs k = false) : cnt (bs.set k true) = cnt bs + 1 := by
  have e1 : bs.set k true = bs.take k ++ true :: bs.drop (k + 1) := by rw [List.set_eq_take_append_cons_drop, if_pos h]
  have e2 : bs = bs.take k ++ false :: bs.drop (k + 1) := by
    rw [gd_eq h] at hk
    conv => lhs; rw [← List.take_append_drop k bs, List.drop_eq_getElem_cons h, hk]
  have h1 : cnt (bs.set k true) = (((bs.take k).count true + (bs.drop (k + 1)).count true + 1 : Nat) : Int) := by
    rw [cnt, e1, List.count_append, List.count_cons]; simp; omega
  have h2 : cnt bs = (((bs.take k).count true + (bs.drop (k + 1)).count true : Nat) : Int) := by
    rw [cnt]; conv => lhs; rw [e2, List.count_append, List.count_cons]
    simp
  rw [h1, h2]; omega
theorem FI.len_le {S O : List Bool} {a : Cel} {Q : List (Int × Int)} (h : FI S a O Q) : Q.length ≤ 6400 := by
  have h1 := h.cnt; have h2 := cnt_le O; rw [h.len] at h2; omega
theorem FI.add {S O : List Bool} {a : Cel} {Q : List (Int × Int)} (h : FI S a O Q) {x y : Int} (hx : 0 ≤ x ∧ x < 80) (hy : 0 ≤ y ∧ y < 80) (hO : gb O y.toNat x.toNat = false) (hS : gb S y.toNat x.toNat = true) {i : Nat} (hi : i < Q.length) (ha : Adj (qc (gd Q i)) (y.toNat, x.toNat)) :
    FI S a (O.set (y.toNat * 80 + x.toNat) true) (Q ++ [(x, y)]) := by
  have hk : y.toNat * 80 + x.toNat < O.length := by rw [h.len]; omega
  have hg : ∀ c : Cel, c.2 < 80 → gb (O.set (y.toNat * 80 + x.toNat) true) c.1 c.2 = if c.1 = y.toNat ∧ c.2 = x.toNat then true else gb O c.1 c.2 := fun c hc => gb_set' h.len (by omega) (by omega) hc
  refine ⟨by simpa using h.len, fun j hj => ?_, fun j hj => ?_, fun c hc => ?_, fun j hj => ?_, ?_⟩
  · by_cases e : j < Q.length
    · rw [gd_app_l e]; exact h.bd j e
    · have : j = Q.length := by simp at hj; omega
      rw [this, gd_app_r]; exact ⟨hx.1, hx.2, hy.1, hy.2⟩
  · by_cases e : j < Q.length
    · rw [gd_app_l e]
      have := h.on j e
      refine ⟨this.1, this.2.1, ?_⟩
      rw [hg _ this.2.1]; split
      · rfl
      · exact this.2.2
    · have : j = Q.length := by simp at hj; omega
      rw [this, gd_app_r]
      refine ⟨by simp only [qc]; omega, by simp only [qc]; omega, ?_⟩
      rw [hg _ (by simp only [qc]; omega), if_pos ⟨rfl, rfl⟩]
  · have := hc.2.2
    rw [hg c hc.2.1] at this
    by_cases e : c.1 = y.toNat ∧ c.2 = x.toNat
    · refine ⟨Q.length, by simp, ?_⟩
      rw [gd_app_r]
      obtain ⟨c1, c2⟩ := c
      simp only at e
      simp [qc, e.1, e.2]
    · rw [if_neg e] at this
      obtain ⟨j, hj, he⟩ := h.all c ⟨hc.1, hc.2.1, this⟩
      exact ⟨j, by simp; omega, by rw [gd_app_l hj]; exact he⟩
  · by_cases e : j < Q.length
    · rw [gd_app_l e]; exact h.conn j e
    · have : j = Q.length := by simp at hj; omega
      rw [this, gd_app_r]
      exact (h.conn i hi).step ha ⟨by simp only [qc]; omega, by simp only [qc]; omega, hS⟩
  · rw [cnt_set hk (by rw [gb] at hO; exact hO), h.cnt]; simp
theorem gb_rep' (y x : Nat) : gb (List.replicate 6400 false) y x = false := by
  unfold gb gd
  rw [List.getElem?_replicate]; split <;> rfl
theorem FI.start {S : List Bool} {x y : Int} (hx : 0 ≤ x ∧ x < 80) (hy : 0 ≤ y ∧ y < 80) : FI S (y.toNat, x.toNat) ((List.replicate 6400 false).set (y.toNat * 80 + x.toNat) true) [(x, y)] := by
  have hl : (List.replicate 6400 false).length = 6400 := List.length_replicate
  have hg : ∀ c : Cel, c.2 < 80 → gb ((List.replicate 6400 false).set (y.toNat * 80 + x.toNat) true) c.1 c.2 = if c.1 = y.toNat ∧ c.2 = x.toNat then true else false := fun c hc => by
    rw [gb_set' hl (by omega) (by omega) hc, gb_rep']
  have hg0 : gd [(x, y)] 0 = (x, y) := by simp [gd]
  have one : ∀ i, i < [(x, y)].length → i = 0 := fun i hi => by simpa using hi
  refine ⟨by rw [List.length_set, hl], fun i hi => ?_, fun i hi => ?_, fun c hc => ?_, fun i hi => ?_, ?_⟩
  · rw [one i hi, hg0]; exact ⟨hx.1, hx.2, hy.1, hy.2⟩
  · rw [one i hi, hg0]
    refine ⟨by simp [qc]; omega, by simp [qc]; omega, ?_⟩
    rw [hg _ (by simp [qc]; omega)]; simp [qc]
  · have := hc.2.2
    rw [hg c hc.2.1] at this
    have e : c.1 = y.toNat ∧ c.2 = x.toNat := by
      by_cases e : c.1 = y.toNat ∧ c.2 = x.toNat
      · exact e
      · rw [if_neg e] at this; cases this
    refine ⟨0, by simp, ?_⟩
    rw [hg0]
    obtain ⟨c1, c2⟩ := c
    simp only at e
    simp [qc, e.1, e.2]
  · rw [one i hi, hg0]; exact .refl
  · rw [cnt_set (by rw [hl]; omega) (by have := gb_rep' y.toNat x.toNat; rwa [gb] at this)]
    have : Go.Proofs.YtgngpegmaceaiaaGreat.cnt (List.replicate 6400 false) = 0 := by
      rw [Go.Proofs.YtgngpegmaceaiaaGreat.cnt, List.count_replicate]; rfl
    rw [this]; simp
/-- the cells of the queue before i have no neighbour that is missing -/
def Done (S O : List Bool) (Q : List (Int × Int)) (i : Nat) : Prop := ∀ m, m < i → ∀ c, Adj (qc (gd Q m)) c → On S c → On O c
/-- of the neighbours of p, those that come before (dy, dx) are there -/
def Near (S O : List Bool) (p : Cel) (dy dx : Int) : Prop := ∀ c : Cel, Adj p c → On S c → ((c.1 : Int) - p.1 < dy ∨ ((c.1 : Int) - p.1 = dy ∧ (c.2 : Int) - p.2 < dx)) → On O c
theorem Near.zero (S O : List Bool) (p : Cel) : Near S O p (-1) (-1) := fun c ha _ h => by
  rcases ha with ⟨h1, h2⟩ | ⟨h1, h2⟩ <;> omega
theorem Near.next {S O : List Bool} {p : Cel} {dy : Int} (h : Near S O p dy 2) : Near S O p (dy + 1) (-1) := fun c ha hs hc => by
  refine h c ha hs ?_
  rcases ha with ⟨h1, h2⟩ | ⟨h1, h2⟩ <;> omega
theorem Near.done {S O : List Bool} {p : Cel} (h : Near S O p 2 (-1)) : ∀ c, Adj p c → On S c → On O c := fun c ha hs => by
  refine h c ha hs ?_
  rcases ha with ⟨h1, h2⟩ | ⟨h1, h2⟩ <;> omega
theorem Near.step {S O O' : List Bool} {p : Cel} {dy dx : Int} (h : Near S O p dy dx) (hO : ∀ c, On O c → On O' c) (hn : ∀ c : Cel, Adj p c → On S c → (c.1 : Int) - p.1 = dy → (c.2 : Int) - p.2 = dx → On O' c) : Near S O' p dy (dx + 1) := fun c ha hs hc => by
  by_cases e : (c.1 : Int) - p.1 = dy ∧ (c.2 : Int) - p.2 = dx
  · exact hn c ha hs e.1 e.2
  · exact hO c (h c ha hs (by omega))
theorem FI.final {S O : List Bool} {a : Cel} {Q : List (Int × Int)} (h : FI S a O Q) (ha : On S a) (h0 : On O a) (hd : Done S O Q Q.length) : O = compB S a :=
  comp_of h.len ha h0 (fun b hb => by obtain ⟨i, hi, rfl⟩ := h.all b hb; exact h.conn i hi) fun b c hb hbc hc => by
    obtain ⟨i, hi, rfl⟩ := h.all b hb
    exact hd i hi c hbc hc
theorem on_set {O : List Bool} {x y : Int} (hl : O.length = 6400) (hx : 0 ≤ x ∧ x < 80) (hy : 0 ≤ y ∧ y < 80) {c : Cel} (h : On O c) : On (O.set (y.toNat * 80 + x.toNat) true) c := by
  refine ⟨h.1, h.2.1, ?_⟩
  rw [gb_set' hl (by omega) (by omega) h.2.1]; split
  · rfl
  · exact h.2.2
end Go.Proofs.YtgngpegmaceaiaaGreat
namespace Go.Proofs.YtgngpegmaceaiaaGreat
set_option linter.unusedVariables false
set_option linter.unusedSimpArgs false
open Go
set_option maxRecDepth 20000
set_option linter.unusedSimpArgs false
variable {G : Gh} {L : List Ch} {R : Value → Gh → List Ch → Prop}
theorem Cv.cast {L L' : List Ch} (h : L = L') : Cv L L' := by subst h; exact Cv.refl _
theorem WP.loop4 {P : Program} {n : Nat} {Q : Post} {σ : Nat → Value} {G : Gh} {L : List Ch} {c : Code} (keep : List Nat) {A B D E : Type} (J : A → B → D → E → Prop) (S : A → B → D → E → List (Nat × Value)) (C : A → B → D → E → List Ch) (μ : A → B → D → E → Nat) (a0 : A) (b0 : B) (d0 : D) (e0 : E) (j0 : J a0 b0 d0 e0) (h0 : HasV σ (S a0 b0 d0 e0)) (p0 : Cv L (C a0 b0 d0 e0))
    (round : ∀ a b d e τ, J a b d e → WP P n c (thenP (fun σ' G' L' => G' = G ∧ ∃ a' b' d' e', J a' b' d' e' ∧ HasV σ' (S a' b' d' e') ∧ Keeps σ' σ keep ∧ Cv L' (C a' b' d' e') ∧ μ a' b' d' e' < μ a b d e) Q) (upds (updk τ σ keep) (S a b d e)) G (C a b d e)) : WP P n (.loop c) Q σ G L :=
  WP.loop0 keep (A := A × B × D × E) (fun x => J x.1 x.2.1 x.2.2.1 x.2.2.2) (fun x => S x.1 x.2.1 x.2.2.1 x.2.2.2) (fun x => C x.1 x.2.1 x.2.2.1 x.2.2.2) (fun x => μ x.1 x.2.1 x.2.2.1 x.2.2.2) (a0, b0, d0, e0) j0 h0 p0 fun x τ j =>
    WP.mono (round x.1 x.2.1 x.2.2.1 x.2.2.2 τ j) fun e σ G L hq => by
      cases e with
      | normal => obtain ⟨e, a', b', d', e', h⟩ := hq; exact ⟨e, (a', b', d', e'), h⟩
      | _ => exact hq
theorem Cv.grd {b y x : Nat} {O : List Bool} {q : Bool} {L : List Ch} : Cv (Go.Proofs.YtgngpegmaceaiaaGreat.grd b (O.set (0 + y * 80 + x * 1) q) :: L) (Go.Proofs.YtgngpegmaceaiaaGreat.grd b (O.set (y * 80 + x) q) :: L) := Cv.cast (by rw [show 0 + y * 80 + x * 1 = y * 80 + x by omega])
theorem gd_gb {B : List Bool} {a b : Nat} : gd B (0 + a * 80 + b * 1) = gb B a b := by rw [gb]; congr 1; omega
theorem Done.add {S O O' : List Bool} {Q : List (Int × Int)} {i : Nat} {q : Int × Int} (h : Done S O Q i) (hi : i < Q.length) (hO : ∀ c, On O c → On O' c) : Done S O' (Q ++ [q]) i := fun m hm c ha hs => by
  rw [gd_app_l (by omega)] at ha; exact hO c (h m hm c ha hs)
theorem Done.next {S O : List Bool} {Q : List (Int × Int)} {i : Nat} {p : Cel} (h : Done S O Q i) (hp : qc (gd Q i) = p) (hn : Near S O p 2 (-1)) : Done S O Q (i + 1) := fun m hm c ha hs => by
  by_cases e : m = i
  · subst e; rw [hp] at ha; exact hn.done c ha hs
  · exact h m (by omega) c ha hs
theorem Near.skip {S O : List Bool} {q : Int × Int} {dy dx : Int} (h : Near S O (qc q) dy dx) (hb : 0 ≤ q.1 ∧ q.1 < 80 ∧ 0 ≤ q.2 ∧ q.2 < 80) (hc : (dx ≠ 0 ∧ dy ≠ 0) ∨ q.1 + dx < 0 ∨ q.2 + dy < 0 ∨ q.1 + dx ≥ 80 ∨ q.2 + dy ≥ 80 ∨ gb S (q.2 + dy).toNat (q.1 + dx).toNat = false ∨ gb O (q.2 + dy).toNat (q.1 + dx).toNat = true) : Near S O (qc q) dy (dx + 1) :=
  h.step (fun _ h => h) fun c ha hs e1 e2 => by
    obtain ⟨c1, c2⟩ := c
    obtain ⟨h1, h2, h3⟩ := hs
    simp only [qc, Adj] at *
    have e3 : c1 = (q.2 + dy).toNat := by omega
    have e4 : c2 = (q.1 + dx).toNat := by omega
    rcases hc with k | k | k | k | k | k | k
    · omega
    · omega
    · omega
    · omega
    · omega
    · rw [← e3, ← e4, h3] at k; cases k
    · exact ⟨h1, h2, by rw [e3, e4]; exact k⟩
theorem Near.take {S O : List Bool} {q : Int × Int} {dy dx : Int} (h : Near S O (qc q) dy dx) (hl : O.length = 6400) (hb : 0 ≤ q.1 ∧ q.1 < 80 ∧ 0 ≤ q.2 ∧ q.2 < 80) (hx : 0 ≤ q.1 + dx ∧ q.1 + dx < 80) (hy : 0 ≤ q.2 + dy ∧ q.2 + dy < 80) : Near S (O.set ((q.2 + dy).toNat * 80 + (q.1 + dx).toNat) true) (qc q) dy (dx + 1) :=
  h.step (fun c hc => on_set hl hx hy hc) fun c ha hs e1 e2 => by
    obtain ⟨c1, c2⟩ := c
    obtain ⟨h1, h2, h3⟩ := hs
    simp only [qc, Adj] at *
    have e3 : c1 = (q.2 + dy).toNat := by omega
    have e4 : c2 = (q.1 + dx).toNat := by omega
    refine ⟨h1, h2, ?_⟩
    rw [gb_set' hl (by omega) (by omega) h2, if_pos ⟨e3, e4⟩]
theorem adj_near {q : Int × Int} {dy dx : Int} (hb : 0 ≤ q.1 ∧ q.1 < 80 ∧ 0 ≤ q.2 ∧ q.2 < 80) (hd : (-1 ≤ dy ∧ dy ≤ 1) ∧ (-1 ≤ dx ∧ dx ≤ 1)) (hn : dx = 0 ∨ dy = 0) (h0 : ¬ (dx = 0 ∧ dy = 0)) (hx : 0 ≤ q.1 + dx) (hy : 0 ≤ q.2 + dy) : Adj (qc q) ((q.2 + dy).toNat, (q.1 + dx).toNat) := by
  simp only [qc, Adj]; omega
theorem flood_s {b : Nat} {S : List Bool} {x y : Int} (hS : S.length = 6400) (hx : 0 ≤ x ∧ x < 80) (hy : 0 ≤ y ∧ y < 80) (hon : gb S y.toNat x.toNat = true) (k : ∀ b', R (.pointer (some ⟨b', 0, none⟩)) G (grd b' (compB S (y.toNat, x.toNat)) :: grd b S :: L)) :
    CallT Tryz.prog 247 #[.pointer (some ⟨b, 0, none⟩), vi x, vi y, .bool false] G (grd b S :: L) R := by
  have hst := FI.start (S := S) hx hy
  have hseed : On S (y.toNat, x.toNat) := ⟨by simp only; omega, by simp only; omega, hon⟩
  refine CallT.enter (args := _) Tryz.func247 rfl rfl (by kernel_rfl) rfl ?_
  refine WP.seq ?_
  refine WP.region ?_
  refine RG.pv rfl (PV.asg rfl rfl) ?_
  refine RG.nil ?_
  refine WP.seq ?_
  refine WP.region ?_
  refine RG.pv rfl (PV.build0 rfl Tryz.underlying174 ⟨80, by kernel_rfl⟩ (zeroB_spec (n := 6400) (by kernel_rfl))) ?_
  refine RG.ot rfl (OT.boxG rfl rfl fun b17 => ?_)
  refine RG.pv rfl (PV.mvP (.inr rfl) rfl) ?_
  refine RG.nil ?_
  refine WP.seq ?_
  refine WP.region ?_
  refine RG.pv rfl (PV.mvP (.inl rfl) rfl) ?_
  refine RG.pv rfl (PV.mvI (.inl rfl) rfl) ?_
  refine RG.pv rfl (PV.mvI (.inl rfl) rfl) ?_
  refine RG.pv rfl (PV.nilc rfl rfl) ?_
  refine RG.pv rfl (PV.idxA (j := y.toNat) rfl Ia174 rfl rfl (by omega) (by omega)) ?_
  refine RG.pv rfl (PV.idxA (j := x.toNat) rfl Ia172 rfl rfl (by omega) (by omega)) ?_
  refine RG.ot rfl (OT.storeGr rfl Sz4 rfl rfl rfl (by first | omega | (simp; omega)) ?_)
  refine RG.nil ?_
  refine WP.seq ?_
  refine WP.region ?_
  refine RG.pv rfl (PV.mvI (.inl rfl) rfl) ?_
  refine RG.pv rfl (PV.mvI (.inl rfl) rfl) ?_
  refine RG.pv rfl (PV.buildA (F := intT) (az := [_, _]) rfl Tryz.underlying239 (by kernel_rfl) ⟨rfl, (Cl.c rfl), ⟨rfl, (Cl.c rfl), trivial⟩⟩) ?_
  refine RG.ot rfl (OT.bslice (F := prT) (els := [⟨_, _⟩]) rfl El240 rfl (by decide) rfl (by decide) ⟨rfl, (Cl.c rfl), trivial⟩ fun v27 => ?_)
  refine RG.pv rfl (PV.asg (v := v27) rfl rfl) ?_
  refine RG.nil ?_
  refine WP.seq ?_
  refine WP.seq ?_
  refine WP.region ?_
  refine RG.pv rfl (PV.mvI (.inr rfl) rfl) ?_
  refine RG.nil ?_
  refine WP.block ?_
  refine WP.cv ((Cv.p (C := grd b17 ((List.replicate 6400 false).set (0 + y.toNat * 80 + x.toNat * 1) true) :: osl 239 prT v27 [(x, y)] :: grd b S :: L)).trans Cv.grd) ?_
  refine WP.loop4 [0, 3, 9] (fun (i : Nat) (Q : List (Int × Int)) (O : List Bool) (qv : Value) => i ≤ Q.length ∧ FI S (y.toNat, x.toNat) O Q ∧ Done S O Q i ∧ On O (y.toNat, x.toNat)) (fun (i : Nat) (Q : List (Int × Int)) (O : List Bool) (qv : Value) => [(11, vi i), (10, qv)]) (fun (i : Nat) (Q : List (Int × Int)) (O : List Bool) (qv : Value) => grd b17 O :: osl 239 prT qv Q :: grd b S :: L) (fun (i : Nat) (Q : List (Int × Int)) (O : List Bool) (qv : Value) => 6401 - i) 0 [(x, y)] ((List.replicate 6400 false).set (y.toNat * 80 + x.toNat) true) v27 ⟨by simp, hst, fun m hm => by omega, by have := hst.on 0 (by simp); simpa [gd, qc] using this⟩ ⟨rfl, rfl, trivial⟩ Cv.p ?_
  rintro i Q O qv τ ⟨hi, hF, hD, h0⟩
  refine WP.seq ?_
  refine WP.seq ?_
  refine WP.region ?_
  refine RG.pv rfl (PV.mvI (.inl rfl) rfl) ?_
  refine RG.pv rfl (PV.move (v := qv) rfl rfl) ?_
  refine RG.pv rfl (PV.len (v := qv) rfl Tryz.underlying240 rfl SlF.o) ?_
  refine RG.pv rfl (PV.lss rfl rfl rfl) ?_
  refine RG.nil ?_
  refine WP.cond rfl (fun h2 => ?_) (fun h2 => ?_)
  · have h2 := of_decide_eq_true h2
    have hQ := hF.len_le
    have hb := hF.bd i (by omega)
    refine WP.skip ?_
    refine WP.seq ?_
    refine WP.block ?_
    refine WP.seq ?_
    refine WP.region ?_
    refine RG.pv rfl (PV.mvI (.inr rfl) rfl) ?_
    refine RG.nil ?_
    refine WP.block ?_
    refine WP.loop4 [0, 3, 9, 11] (fun (dy : Int) (Q1 : List (Int × Int)) (O1 : List Bool) (qv1 : Value) => (-1 ≤ dy ∧ dy ≤ 2) ∧ FI S (y.toNat, x.toNat) O1 Q1 ∧ Done S O1 Q1 i ∧ On O1 (y.toNat, x.toNat) ∧ i < Q1.length ∧ gd Q1 i = gd Q i ∧ Near S O1 (qc (gd Q i)) dy (-1)) (fun (dy : Int) (Q1 : List (Int × Int)) (O1 : List Bool) (qv1 : Value) => [(12, vi dy), (10, qv1)]) (fun (dy : Int) (Q1 : List (Int × Int)) (O1 : List Bool) (qv1 : Value) => grd b17 O1 :: osl 239 prT qv1 Q1 :: grd b S :: L) (fun (dy : Int) (Q1 : List (Int × Int)) (O1 : List Bool) (qv1 : Value) => (2 - dy).toNat) (-1) Q O qv ⟨by omega, hF, hD, h0, by omega, rfl, Near.zero _ _ _⟩ ⟨rfl, rfl, trivial⟩ Cv.p ?_
    rintro dy Q1 O1 qv1 τ1 ⟨⟨hy1, hy2⟩, hF1, hD1, h01, hi1, hq1, hN1⟩
    refine WP.seq ?_
    refine WP.seq ?_
    refine WP.region ?_
    refine RG.pv rfl (PV.mvI (.inl rfl) rfl) ?_
    refine RG.pv rfl (PV.leq rfl rfl rfl) ?_
    refine RG.nil ?_
    refine WP.cond rfl (fun h3 => ?_) (fun h3 => ?_)
    · have h3 := of_decide_eq_true h3
      refine WP.skip ?_
      refine WP.seq ?_
      refine WP.block ?_
      refine WP.seq ?_
      refine WP.region ?_
      refine RG.pv rfl (PV.mvI (.inr rfl) rfl) ?_
      refine RG.nil ?_
      refine WP.block ?_
      refine WP.loop4 [0, 3, 9, 11, 12] (fun (dx : Int) (Q2 : List (Int × Int)) (O2 : List Bool) (qv2 : Value) => (-1 ≤ dx ∧ dx ≤ 2) ∧ FI S (y.toNat, x.toNat) O2 Q2 ∧ Done S O2 Q2 i ∧ On O2 (y.toNat, x.toNat) ∧ i < Q2.length ∧ gd Q2 i = gd Q i ∧ Near S O2 (qc (gd Q i)) dy dx) (fun (dx : Int) (Q2 : List (Int × Int)) (O2 : List Bool) (qv2 : Value) => [(13, vi dx), (10, qv2)]) (fun (dx : Int) (Q2 : List (Int × Int)) (O2 : List Bool) (qv2 : Value) => grd b17 O2 :: osl 239 prT qv2 Q2 :: grd b S :: L) (fun (dx : Int) (Q2 : List (Int × Int)) (O2 : List Bool) (qv2 : Value) => (2 - dx).toNat) (-1) Q1 O1 qv1 ⟨by omega, hF1, hD1, h01, hi1, hq1, hN1⟩ ⟨rfl, rfl, trivial⟩ Cv.p ?_
      rintro dx Q2 O2 qv2 τ2 ⟨⟨hx1, hx2⟩, hF2, hD2, h02, hi2, hq2, hN2⟩
      refine WP.seq ?_
      refine WP.seq ?_
      refine WP.region ?_
      refine RG.pv rfl (PV.mvI (.inl rfl) rfl) ?_
      refine RG.pv rfl (PV.leq rfl rfl rfl) ?_
      refine RG.nil ?_
      refine WP.cond rfl (fun h4 => ?_) (fun h4 => ?_)
      · have h4 := of_decide_eq_true h4
        have hl2 := hF2.len
        have hQ2 := hF2.len_le
        have hb2 : 0 ≤ (gd Q2 i).1 ∧ (gd Q2 i).1 < 80 ∧ 0 ≤ (gd Q2 i).2 ∧ (gd Q2 i).2 < 80 := by rw [hq2]; exact hb
        refine WP.skip ?_
        refine WP.seq ?_
        refine WP.block ?_
        refine WP.seq ?_
        refine WP.regionQ (by kernel_rfl) (by kernel_rfl) ?_
        refine RQ.pv rfl (PV.move (v := qv2) rfl rfl) ?_
        refine RQ.pv rfl (PV.mvI (.inl rfl) rfl) ?_
        refine RQ.pv rfl (PV.idxS (j := i) (v := qv2) rfl Is240 rfl SlF.o rfl (by omega) (by omega)) ?_
        refine RQ.pv rfl (PV.idxA (j := 0) rfl Ia239 rfl rfl (by omega) (by omega)) ?_
        refine RQ.pv rfl (PV.loadF rfl Sc3 rfl rfl (El.o (getG (by omega))) rfl) ?_
        refine RQ.pv rfl (PV.mvI (.inl rfl) rfl) ?_
        refine RQ.pv rfl (PV.add rfl rfl rfl (by omega)) ?_
        refine RQ.pv rfl (PV.move (v := qv2) rfl rfl) ?_
        refine RQ.pv rfl (PV.mvI (.inl rfl) rfl) ?_
        refine RQ.pv rfl (PV.idxS (j := i) (v := qv2) rfl Is240 rfl SlF.o rfl (by omega) (by omega)) ?_
        refine RQ.pv rfl (PV.idxA (j := 1) rfl Ia239 rfl rfl (by omega) (by omega)) ?_
        refine RQ.pv rfl (PV.loadF rfl Sc3 rfl rfl (El.o (getG (by omega))) rfl) ?_
        refine RQ.pv rfl (PV.mvI (.inl rfl) rfl) ?_
        refine RQ.pv rfl (PV.add rfl rfl rfl (by omega)) ?_
        refine RQ.pv rfl (PV.mvI (.inr rfl) rfl) ?_
        refine RQ.pv rfl (PV.mvI (.inr rfl) rfl) ?_
        refine RQ.nil ?_
        refine WP.seq ?_
        refine WP.seq ?_
        refine WP.region ?_
        refine RG.pv rfl (PV.mvI (.inl rfl) rfl) ?_
        refine RG.pv rfl (PV.neq rfl rfl rfl) ?_
        refine RG.pv rfl (PV.mvB (.inl rfl) rfl) ?_
        refine RG.gs rfl rfl rfl (fun hp => (PV.mvI (.inl rfl) rfl)) ?_
        refine RG.gs rfl rfl rfl (fun hp => (PV.neq rfl (gs_t hp) rfl)) ?_
        refine RG.pv rfl (PV.pickA rfl rfl (fun hq => gs_t (geqT hq)) rfl) ?_
        refine RG.pv rfl (PV.mvB (.inl rfl) rfl) ?_
        refine RG.gs rfl rfl rfl (fun hp => (PV.mvB (.inl rfl) rfl)) ?_
        refine RG.gs rfl rfl rfl (fun hp => (PV.not rfl (gs_t hp))) ?_
        refine RG.pv rfl (PV.pickA rfl rfl (fun hq => gs_t (geqT hq)) rfl) ?_
        refine RG.pv rfl (PV.mvB (.inl rfl) rfl) ?_
        refine RG.gs rfl rfl rfl (fun hp => (PV.mvI (.inl rfl) rfl)) ?_
        refine RG.gs rfl rfl rfl (fun hp => (PV.lss rfl (gs_t hp) rfl)) ?_
        refine RG.pv rfl (PV.pickO rfl rfl rfl (fun hq => gs_t (geqF hq))) ?_
        refine RG.pv rfl (PV.mvB (.inl rfl) rfl) ?_
        refine RG.gs rfl rfl rfl (fun hp => (PV.mvI (.inl rfl) rfl)) ?_
        refine RG.gs rfl rfl rfl (fun hp => (PV.lss rfl (gs_t hp) rfl)) ?_
        refine RG.pv rfl (PV.pickO rfl rfl rfl (fun hq => gs_t (geqF hq))) ?_
        refine RG.pv rfl (PV.mvB (.inl rfl) rfl) ?_
        refine RG.gs rfl rfl rfl (fun hp => (PV.mvI (.inl rfl) rfl)) ?_
        refine RG.gs rfl rfl rfl (fun hp => (PV.geq rfl (gs_t hp) rfl)) ?_
        refine RG.pv rfl (PV.pickO rfl rfl rfl (fun hq => gs_t (geqF hq))) ?_
        refine RG.pv rfl (PV.mvB (.inl rfl) rfl) ?_
        refine RG.gs rfl rfl rfl (fun hp => (PV.mvI (.inl rfl) rfl)) ?_
        refine RG.gs rfl rfl rfl (fun hp => (PV.geq rfl (gs_t hp) rfl)) ?_
        refine RG.pv rfl (PV.pickO rfl rfl rfl (fun hq => gs_t (geqF hq))) ?_
        refine RG.pv rfl (PV.mvB (.inl rfl) rfl) ?_
        refine RG.gs rfl rfl rfl (fun hp => (PV.mvP (.inl rfl) rfl)) ?_
        refine RG.gs rfl rfl rfl (fun hp => (PV.mvI (.inl rfl) rfl)) ?_
        refine RG.gs rfl rfl rfl (fun hp => (PV.mvI (.inl rfl) rfl)) ?_
        refine RG.gs rfl rfl rfl (fun hp => (PV.nilc rfl (gs_t hp))) ?_
        refine RG.gs rfl rfl rfl (fun hp => (PV.idxA (j := ((gd Q2 i).2 + dy).toNat) rfl Ia174 (gs_t hp) (gs_t hp) (by first | omega | (simp at hp; omega)) (by first | omega | (simp at hp; omega)))) ?_
        refine RG.gs rfl rfl rfl (fun hp => (PV.idxA (j := ((gd Q2 i).1 + dx).toNat) rfl Ia172 (gs_t hp) (gs_t hp) (by first | omega | (simp at hp; omega)) (by first | omega | (simp at hp; omega)))) ?_
        refine RG.gs rfl rfl rfl (fun hp => (PV.loadGr rfl Sc4 (gs_t hp) rfl (by first | omega | (simp at hp; omega)))) ?_
        refine RG.gs rfl rfl rfl (fun hp => (PV.not rfl (gs_t hp))) ?_
        refine RG.pv rfl (PV.pickO rfl rfl rfl (fun hq => gs_t (geqF hq))) ?_
        refine RG.pv rfl (PV.mvB (.inl rfl) rfl) ?_
        refine RG.gs rfl rfl rfl (fun hp => (PV.mvP (.inl rfl) rfl)) ?_
        refine RG.gs rfl rfl rfl (fun hp => (PV.mvI (.inl rfl) rfl)) ?_
        refine RG.gs rfl rfl rfl (fun hp => (PV.mvI (.inl rfl) rfl)) ?_
        refine RG.gs rfl rfl rfl (fun hp => (PV.nilc rfl (gs_t hp))) ?_
        refine RG.gs rfl rfl rfl (fun hp => (PV.idxA (j := ((gd Q2 i).2 + dy).toNat) rfl Ia174 (gs_t hp) (gs_t hp) (by first | omega | (simp at hp; omega)) (by first | omega | (simp at hp; omega)))) ?_
        refine RG.gs rfl rfl rfl (fun hp => (PV.idxA (j := ((gd Q2 i).1 + dx).toNat) rfl Ia172 (gs_t hp) (gs_t hp) (by first | omega | (simp at hp; omega)) (by first | omega | (simp at hp; omega)))) ?_
        refine RG.gs rfl rfl rfl (fun hp => (PV.loadGr rfl Sc4 (gs_t hp) rfl (by first | omega | (simp at hp; omega)))) ?_
        refine RG.pv rfl (PV.pickO rfl rfl rfl (fun hq => gs_t (geqF hq))) ?_
        refine RG.nil ?_
        refine WP.cond rfl (fun h5 => ?_) (fun h5 => ?_)
        · have h6 : (dx ≠ 0 ∧ dy ≠ 0) ∨ (gd Q2 i).1 + dx < 0 ∨ (gd Q2 i).2 + dy < 0 ∨ (gd Q2 i).1 + dx ≥ 80 ∨ (gd Q2 i).2 + dy ≥ 80 ∨ gb S ((gd Q2 i).2 + dy).toNat ((gd Q2 i).1 + dx).toNat = false ∨ gb O2 ((gd Q2 i).2 + dy).toNat ((gd Q2 i).1 + dx).toNat = true := by
            simp only [Bool.or_eq_true, Bool.and_eq_true, decide_eq_true_eq, Bool.not_eq_true', Bool.not_false, or_assoc, and_true, gd_gb, decide_eq_false_iff_not] at h5
            exact h5
          refine WP.exit ?_
          refine WP.region ?_
          refine RG.pv rfl (PV.mvI (.inl rfl) rfl) ?_
          refine RG.pv rfl (PV.add rfl rfl rfl (by omega)) ?_
          refine RG.pv rfl (PV.mvI (.inr rfl) rfl) ?_
          refine RG.nil ?_
          exact ⟨rfl, dx + 1, Q2, O2, qv2, ⟨by omega, hF2, hD2, h02, hi2, hq2, by rw [← hq2] at hN2 ⊢; exact hN2.skip hb2 h6⟩, ⟨rfl, rfl, trivial⟩, ⟨rfl, rfl, rfl, rfl, rfl, trivial⟩, Cv.p, by omega⟩
        · have h6 : (dx = 0 ∨ dy = 0) ∧ 0 ≤ (gd Q2 i).1 + dx ∧ 0 ≤ (gd Q2 i).2 + dy ∧ (gd Q2 i).1 + dx < 80 ∧ (gd Q2 i).2 + dy < 80 ∧ gb S ((gd Q2 i).2 + dy).toNat ((gd Q2 i).1 + dx).toNat = true ∧ gb O2 ((gd Q2 i).2 + dy).toNat ((gd Q2 i).1 + dx).toNat = false := by
            simp only [Bool.or_eq_false_iff, Bool.and_eq_false_iff, decide_eq_false_iff_not, Bool.not_eq_false', Bool.not_false, and_assoc, Bool.true_eq_false, or_false, gd_gb, decide_eq_true_eq] at h5
            obtain ⟨a1, a2, a3, a4, a5, a6, a7⟩ := h5
            exact ⟨by omega, by omega, by omega, by omega, by omega, a6, a7⟩
          obtain ⟨a1, a2, a3, a4, a5, a6, a7⟩ := h6
          refine WP.skip ?_
          refine WP.seq ?_
          refine WP.region ?_
          refine RG.pv rfl (PV.mvP (.inl rfl) rfl) ?_
          refine RG.pv rfl (PV.mvI (.inl rfl) rfl) ?_
          refine RG.pv rfl (PV.mvI (.inl rfl) rfl) ?_
          refine RG.pv rfl (PV.nilc rfl rfl) ?_
          refine RG.pv rfl (PV.idxA (j := ((gd Q2 i).2 + dy).toNat) rfl Ia174 rfl rfl (by omega) (by omega)) ?_
          refine RG.pv rfl (PV.idxA (j := ((gd Q2 i).1 + dx).toNat) rfl Ia172 rfl rfl (by omega) (by omega)) ?_
          refine RG.ot rfl (OT.storeGr rfl Sz4 rfl rfl rfl (by first | omega | (simp; omega)) ?_)
          refine RG.nil ?_
          refine WP.region ?_
          refine RG.pv rfl (PV.move (v := qv2) rfl rfl) ?_
          refine RG.pv rfl (PV.mvI (.inl rfl) rfl) ?_
          refine RG.pv rfl (PV.mvI (.inl rfl) rfl) ?_
          refine RG.pv rfl (PV.buildA (F := intT) (az := [_, _]) rfl Tryz.underlying239 (by kernel_rfl) ⟨rfl, (Cl.c rfl), ⟨rfl, (Cl.c rfl), trivial⟩⟩) ?_
          refine RG.ot rfl (OT.bslice (F := prT) (els := [⟨_, _⟩]) rfl El240 rfl (by decide) rfl (by decide) ⟨rfl, (Cl.c rfl), trivial⟩ fun v111 => ?_)
          refine RG.ot rfl (OT.append (v := qv2) (u := v111) (F := prT) rfl El240 rfl (by decide) rfl rfl Rs.o (OneL.c (fun _ => rfl)) rfl (by first | omega | (simp <;> omega)) fun v112 => ?_)
          refine RG.pv rfl (PV.asg (v := v112) rfl rfl) ?_
          refine RG.nil ?_
          refine WP.region ?_
          refine RG.pv rfl (PV.mvI (.inl rfl) rfl) ?_
          refine RG.pv rfl (PV.add rfl rfl rfl (by omega)) ?_
          refine RG.pv rfl (PV.mvI (.inr rfl) rfl) ?_
          refine RG.nil ?_
          exact ⟨rfl, dx + 1, (Q2 ++ [((gd Q2 i).1 + dx, (gd Q2 i).2 + dy)]), (O2.set (((gd Q2 i).2 + dy).toNat * 80 + ((gd Q2 i).1 + dx).toNat) true), v112, ⟨by omega, hF2.add ⟨by omega, by omega⟩ ⟨by omega, by omega⟩ a7 a6 hi2 (adj_near hb2 (by omega) a1 (fun e => by have := (hF2.on i hi2).2.2; simp only [qc] at this; rw [e.1, e.2, Int.add_zero, Int.add_zero, this] at a7; cases a7) a2 a3), hD2.add hi2 (fun c hc => on_set hl2 ⟨by omega, by omega⟩ ⟨by omega, by omega⟩ hc), on_set hl2 ⟨by omega, by omega⟩ ⟨by omega, by omega⟩ h02, by simp; omega, by rw [gd_app_l hi2]; exact hq2, by rw [← hq2] at hN2 ⊢; exact hN2.take hl2 hb2 (by omega) (by omega)⟩, ⟨rfl, rfl, trivial⟩, ⟨rfl, rfl, rfl, rfl, rfl, trivial⟩, (Cv.p (C := grd b17 (O2.set (0 + ((gd Q2 i).2 + dy).toNat * 80 + ((gd Q2 i).1 + dx).toNat * 1) true) :: osl 239 prT v112 (Q2 ++ [((gd Q2 i).1 + dx, (gd Q2 i).2 + dy)]) :: grd b S :: L)).trans Cv.grd, by omega⟩
      · have h4 := of_decide_eq_false h4
        refine WP.exit ?_
        refine WP.region ?_
        refine RG.pv rfl (PV.mvI (.inl rfl) rfl) ?_
        refine RG.pv rfl (PV.add rfl rfl rfl (by omega)) ?_
        refine RG.pv rfl (PV.mvI (.inr rfl) rfl) ?_
        refine RG.nil ?_
        exact ⟨rfl, dy + 1, Q2, O2, qv2, ⟨by omega, hF2, hD2, h02, hi2, hq2, by obtain rfl : dx = 2 := (by omega); exact hN2.next⟩, ⟨rfl, rfl, trivial⟩, ⟨rfl, rfl, rfl, rfl, trivial⟩, Cv.p, by omega⟩
    · have h3 := of_decide_eq_false h3
      refine WP.exit ?_
      refine WP.region ?_
      refine RG.pv rfl (PV.mvI (.inl rfl) rfl) ?_
      refine RG.pv rfl (PV.add rfl rfl rfl (by omega)) ?_
      refine RG.pv rfl (PV.mvI (.inr rfl) rfl) ?_
      refine RG.nil ?_
      exact ⟨rfl, i + 1, Q1, O1, qv1, ⟨by omega, hF1, hD1.next (by rw [hq1]) (by obtain rfl : dy = 2 := (by omega); exact hN1), h01⟩, ⟨rfl, rfl, trivial⟩, ⟨rfl, rfl, rfl, trivial⟩, Cv.p, by omega⟩
  · have h2 := of_decide_eq_false h2
    obtain rfl : i = Q.length := by omega
    rw [← hF.final hseed h0 hD] at k
    refine WP.exit ?_
    refine WP.seq ?_
    refine WP.region ?_
    refine RG.pv rfl (PV.mvP (.inl rfl) rfl) ?_
    refine RG.pv rfl (PV.mvP (.inr rfl) rfl) ?_
    refine RG.nil ?_
    refine WP.ret ?_
    exact ⟨_, _, ResV.one rfl rfl, Cv.p, k _⟩
end Go.Proofs.YtgngpegmaceaiaaGreat
namespace Go.Proofs.YtgngpegmaceaiaaGreat
set_option linter.unusedVariables false
set_option linter.unusedSimpArgs false
open Go
set_option maxRecDepth 20000
set_option linter.unusedSimpArgs false
section
variable {P : Program} {n : Nat} {ops : Array Oper} {rest : List Oper} {Q : Post} {σ : Nat → Value} {G : Gh} {L : List Ch} {o : Oper}
theorem RQ.gsB {j t : Nat} {want p : Bool} {b fv : Value} {fo : Operand} {l : List Operand} {ats : Array TypeId} (hg : o.guard = some (j, want)) (hj : (ops[j]?).bind (·.dst) = some t) (hb : σ t = .bool p)
    (ho : o.op = .call { callee := .value fo, args := l.toArray, argTypes := ats })
    (h : (p == want) = true → ev σ fo = fv ∧ ∃ vs, cargs σ l = vs ∧ CB P G L fv vs b) (k : RQ P n ops rest Q (updo σ o.dst (gv (p == want) b)) G L) : RQ P n ops (o :: rest) Q σ G L :=
  RQ.gsK hg hj hb (fun e k => by obtain ⟨hf, vs, ha, hc⟩ := h e; exact RQ.callB rfl ho hf ha hc k) k
end
variable {G : Gh} {L : List Ch} {R : Value → Gh → List Ch → Prop}
theorem PV.shr {P : Program} {o : Oper} {σ : Nat → Value} {G : Gh} {L : List Ch} {T T' : TypeId} {x y : Operand} {k k' : IntKind} {a b : Int} (ho : o.op = .binOp .shr T x y T') (hx : ev σ x = .int k a) (hy : ev σ y = .int k' b) (h0 : 0 ≤ b) (h1 : b ≤ k.bits) : PV P o σ G L (.int k (a / 2 ^ b.toNat)) := by
  intro w _
  simp [execOp, ho, hx, hy, eqGuard, binOp, shift_shr k k' a b h0 h1]
theorem u64w {a : Int} (h : 0 ≤ a ∧ a ≤ 18446744073709551615) : IntKind.u64.wrap a = a := by simp [IntKind.wrap, IntKind.bits, IntKind.signed]; omega
theorem u8w {a : Int} (h : 0 ≤ a ∧ a ≤ 255) : IntKind.u8.wrap a = a := by simp [IntKind.wrap, IntKind.bits, IntKind.signed]; omega
theorem u8i (c : UInt8) : IntKind.i64.wrap (c.toNat : Int) = c.toNat := i64w (by have := c.toNat_lt; omega)
theorem u8add {a : Int} {c : UInt8} (h : 0 ≤ a ∧ a ≤ 1000) : -9223372036854775808 ≤ a + (c.toNat : Int) ∧ a + (c.toNat : Int) ≤ 9223372036854775807 := by have := c.toNat_lt; omega
theorem bitsLen64_s {a : Int} (ha : 0 ≤ a ∧ a ≤ 6400) (k : ∀ l : Int, (a ≠ 0 → l ≠ 0) → R (vi l) G L) : CallT Tryz.prog 271 #[.int .u64 a] G L R := by
  refine CallT.enter (args := _) Tryz.func271 rfl rfl (by kernel_rfl) rfl ?_
  refine WP.seq ?_
  refine WP.region ?_
  refine RG.pv rfl (PV.mvI (.inr rfl) rfl) ?_
  refine RG.nil ?_
  refine WP.seq ?_
  refine WP.seq ?_
  refine WP.region ?_
  refine RG.pv rfl (PV.mvI (.inl rfl) rfl) ?_
  refine RG.pv rfl (PV.geq rfl rfl rfl) ?_
  refine RG.nil ?_
  refine WP.cond rfl (fun h2 => ?_) (fun h2 => ?_)
  · have h2 := of_decide_eq_true h2
    omega
  · refine WP.skip ?_
    refine WP.seq ?_
    refine WP.seq ?_
    refine WP.region ?_
    refine RG.pv rfl (PV.mvI (.inl rfl) rfl) ?_
    refine RG.pv rfl (PV.geq rfl rfl rfl) ?_
    refine RG.nil ?_
    refine WP.cond rfl (fun h3 => ?_) (fun h3 => ?_)
    · have h3 := of_decide_eq_true h3
      omega
    · refine WP.skip ?_
      refine WP.seq ?_
      refine WP.seq ?_
      refine WP.region ?_
      refine RG.pv rfl (PV.mvI (.inl rfl) rfl) ?_
      refine RG.pv rfl (PV.geq rfl rfl rfl) ?_
      refine RG.nil ?_
      refine WP.cond rfl (fun h4 => ?_) (fun h4 => ?_)
      · have h4 := of_decide_eq_true h4
        have e1 : IntKind.u8.wrap (a / 2 ^ Int.toNat 8) = (((a / 256).toNat : Nat) : Int) := by rw [show (2 : Int) ^ Int.toNat 8 = 256 from rfl, u8w (by omega)]; omega
        have e2 : (a / 256).toNat < 256 := by omega
        refine WP.seq ?_
        refine WP.region ?_
        refine RG.pv rfl (PV.mvI (.inl rfl) rfl) ?_
        refine RG.pv rfl (PV.shr rfl rfl rfl (by decide) (by decide)) ?_
        refine RG.pv rfl (PV.mvI (.inr rfl) rfl) ?_
        refine RG.nil ?_
        refine WP.region ?_
        refine RG.pv rfl (PV.mvI (.inl rfl) rfl) ?_
        refine RG.pv rfl (PV.add rfl rfl rfl (by omega)) ?_
        refine RG.pv rfl (PV.mvI (.inr rfl) rfl) ?_
        refine RG.nil ?_
        refine WP.seq ?_
        refine WP.region ?_
        refine RG.pv rfl (PV.mvI (.inl rfl) rfl) ?_
        refine RG.pv rfl (PV.mvI (.inl rfl) rfl) ?_
        refine RG.pv rfl (PV.conv rfl ⟨_, Tryz.underlying255⟩ Tryz.underlying5 rfl rfl) ?_
        refine RG.pv rfl (PV.idxStr (j := (a / 256).toNat) rfl Tryz.underlying9 rfl rfl e1 (getBG e2)) ?_
        refine RG.pv rfl (PV.conv rfl ⟨_, Tryz.underlying5⟩ Tryz.underlying3 rfl (u8i _)) ?_
        refine RG.pv rfl (PV.add rfl rfl rfl (by first | omega | exact u8add (by omega))) ?_
        refine RG.pv rfl (PV.mvI (.inr rfl) rfl) ?_
        refine RG.nil ?_
        refine WP.ret ?_
        exact ⟨_, _, ResV.one rfl rfl, Cv.p, k _ (fun _ => by omega)⟩
      · have h5 := of_decide_eq_false h4
        have e1 : IntKind.u8.wrap a = ((a.toNat : Nat) : Int) := by rw [u8w (by omega)]; omega
        have e2 : a.toNat < 256 := by omega
        refine WP.skip ?_
        refine WP.seq ?_
        refine WP.region ?_
        refine RG.pv rfl (PV.mvI (.inl rfl) rfl) ?_
        refine RG.pv rfl (PV.mvI (.inl rfl) rfl) ?_
        refine RG.pv rfl (PV.conv rfl ⟨_, Tryz.underlying255⟩ Tryz.underlying5 rfl rfl) ?_
        refine RG.pv rfl (PV.idxStr (j := a.toNat) rfl Tryz.underlying9 rfl rfl e1 (getBG e2)) ?_
        refine RG.pv rfl (PV.conv rfl ⟨_, Tryz.underlying5⟩ Tryz.underlying3 rfl (u8i _)) ?_
        refine RG.pv rfl (PV.add rfl rfl rfl (by first | omega | exact u8add (by omega))) ?_
        refine RG.pv rfl (PV.mvI (.inr rfl) rfl) ?_
        refine RG.nil ?_
        refine WP.ret ?_
        refine ⟨_, _, ResV.one rfl rfl, Cv.p, k _ (fun h => ?_)⟩
        obtain ⟨m, rfl⟩ : ∃ m : Nat, a = (m : Int) := ⟨a.toNat, by omega⟩
        have hm : m < 256 := by omega
        have h0 : m ≠ 0 := by omega
        rw [Int.toNat_natCast]
        clear h e2 e1 h5 h4 h3 h2 k ha
        unfold bt
        revert m
        decide +kernel
theorem bitsLen_s {a : Int} (ha : 0 ≤ a ∧ a ≤ 6400) (k : ∀ l : Int, (a ≠ 0 → l ≠ 0) → R (vi l) G L) : CallT Tryz.prog 261 #[.int .u64 a] G L R := by
  refine CallT.enter (args := _) Tryz.func261 rfl rfl (by kernel_rfl) rfl ?_
  refine WP.seq ?_
  refine WP.region ?_
  refine RG.pv rfl (PV.mvI (.inr rfl) rfl) ?_
  refine RG.nil ?_
  refine WP.seq ?_
  refine WP.cond rfl (fun h2 => ?_) (fun h2 => ?_)
  · exact absurd h2 (by decide)
  · refine WP.skip ?_
    refine WP.seq ?_
    refine WP.region ?_
    refine RG.pv rfl (PV.mvI (.inl rfl) rfl) ?_
    refine RG.callF (vs := [_]) rfl rfl En271 rfl (bitsLen64_s ha (fun l hl => ?_))
    refine RG.pv rfl (PV.mvI (.inr rfl) rfl) ?_
    refine RG.nil ?_
    refine WP.ret ?_
    exact ⟨_, _, ResV.one rfl rfl, Cv.p, k _ hl⟩
theorem order2_rss {v fv p : Value} {xs : List (Sl Rect)} {a b : Int} {cf : Nat → Nat → Int} (h1 : Rs G L slT v xs) (h0 : 0 ≤ a) (hab : a < b) (hb : b < xs.length) (hf : ∀ i j, i < xs.length → j < xs.length → CB Tryz.prog G L fv [Sl.v (gd xs i), Sl.v (gd xs j)] (vi (cf i j))) (hs : ∀ i j, i < j → j < xs.length → ¬ cf j i < 0) (k : R (.tuple #[vi a, vi b]) G L) : CallT Tryz.prog 277 #[v, vi a, vi b, p, fv] G L R := by
  refine CallT.bd h1 fun hbd => ?_
  refine CallT.enter (args := _) Tryz.func277 rfl rfl (by kernel_rfl) rfl ?_
  refine WP.seq ?_
  refine WP.region ?_
  refine RG.pv rfl (PV.mvI (.inr rfl) rfl) ?_
  refine RG.pv rfl (PV.mvI (.inr rfl) rfl) ?_
  refine RG.nil ?_
  refine WP.seq ?_
  refine WP.seq ?_
  refine WP.regionQ (by kernel_rfl) (by kernel_rfl) ?_
  refine RQ.pv rfl (PV.move (v := fv) rfl rfl) ?_
  refine RQ.pv rfl (PV.move (v := v) rfl rfl) ?_
  refine RQ.pv rfl (PV.mvI (.inl rfl) rfl) ?_
  refine RQ.pv rfl (PV.idxS (j := b.toNat) (v := v) rfl Is50 rfl (SlF.r h1) rfl (by omega) (by omega)) ?_
  refine RQ.pv rfl (PV.loadE1 rfl Sc35 rfl rfl (El.r h1 (getG (by omega))) rfl) ?_
  refine RQ.pv rfl (PV.move (v := v) rfl rfl) ?_
  refine RQ.pv rfl (PV.mvI (.inl rfl) rfl) ?_
  refine RQ.pv rfl (PV.idxS (j := a.toNat) (v := v) rfl Is50 rfl (SlF.r h1) rfl (by omega) (by omega)) ?_
  refine RQ.pv rfl (PV.loadE1 rfl Sc35 rfl rfl (El.r h1 (getG (by omega))) rfl) ?_
  refine RQ.callB (vs := [_, _]) rfl rfl rfl rfl (CB.up (hf b.toNat a.toNat (by omega) (by omega))) ?_
  refine RQ.pv rfl (PV.lss rfl rfl rfl) ?_
  refine RQ.nil ?_
  refine WP.cond rfl (fun h2 => ?_) (fun h2 => ?_)
  · exact absurd (of_decide_eq_true h2) (hs _ _ (by omega) (by omega))
  · refine WP.skip ?_
    refine WP.seq ?_
    refine WP.region ?_
    refine RG.pv rfl (PV.mvI (.inl rfl) rfl) ?_
    refine RG.pv rfl (PV.mvI (.inl rfl) rfl) ?_
    refine RG.pv rfl (PV.mvI (.inr rfl) rfl) ?_
    refine RG.pv rfl (PV.mvI (.inr rfl) rfl) ?_
    refine RG.nil ?_
    refine WP.ret ?_
    exact ⟨_, _, ResV.two rfl rfl rfl, Cv.p, k⟩
theorem median_rss {v fv p : Value} {xs : List (Sl Rect)} {a b c : Int} {cf : Nat → Nat → Int} (h1 : Rs G L slT v xs) (h0 : 0 ≤ a) (hab : a < b) (hbc : b < c) (hc : c < xs.length) (hf : ∀ i j, i < xs.length → j < xs.length → CB Tryz.prog G L fv [Sl.v (gd xs i), Sl.v (gd xs j)] (vi (cf i j))) (hs : ∀ i j, i < j → j < xs.length → ¬ cf j i < 0) (k : R (vi b) G L) : CallT Tryz.prog 276 #[v, vi a, vi b, vi c, p, fv] G L R := by
  refine CallT.bd h1 fun hbd => ?_
  refine CallT.enter (args := _) Tryz.func276 rfl rfl (by kernel_rfl) rfl ?_
  refine WP.seq ?_
  refine WP.region ?_
  refine RG.pv rfl (PV.mvI (.inr rfl) rfl) ?_
  refine RG.nil ?_
  refine WP.seq ?_
  refine WP.region ?_
  refine RG.pv rfl (PV.move (v := v) rfl rfl) ?_
  refine RG.pv rfl (PV.mvI (.inl rfl) rfl) ?_
  refine RG.pv rfl (PV.mvI (.inl rfl) rfl) ?_
  refine RG.pv rfl (PV.move (v := p) rfl rfl) ?_
  refine RG.pv rfl (PV.move (v := fv) rfl rfl) ?_
  refine RG.callF (vs := [v, _, _, p, fv]) rfl rfl En277 rfl (order2_rss (Rs.up h1) (by omega) (by omega) (by omega) (fun i j hi hj => (hf i j hi hj).up) hs ?_)
  refine RG.pv rfl (PV.move rfl rfl) ?_
  refine RG.pv rfl (PV.ext rfl rfl rfl) ?_
  refine RG.pv rfl (PV.ext rfl rfl rfl) ?_
  refine RG.pv rfl (PV.mvI (.inr rfl) rfl) ?_
  refine RG.pv rfl (PV.mvI (.inr rfl) rfl) ?_
  refine RG.nil ?_
  refine WP.seq ?_
  refine WP.region ?_
  refine RG.pv rfl (PV.move (v := v) rfl rfl) ?_
  refine RG.pv rfl (PV.mvI (.inl rfl) rfl) ?_
  refine RG.pv rfl (PV.mvI (.inl rfl) rfl) ?_
  refine RG.pv rfl (PV.move (v := p) rfl rfl) ?_
  refine RG.pv rfl (PV.move (v := fv) rfl rfl) ?_
  refine RG.callF (vs := [v, _, _, p, fv]) rfl rfl En277 rfl (order2_rss (Rs.up h1) (by omega) (by omega) (by omega) (fun i j hi hj => (hf i j hi hj).up) hs ?_)
  refine RG.pv rfl (PV.move rfl rfl) ?_
  refine RG.pv rfl (PV.ext rfl rfl rfl) ?_
  refine RG.pv rfl (PV.ext rfl rfl rfl) ?_
  refine RG.pv rfl (PV.mvI (.inr rfl) rfl) ?_
  refine RG.pv rfl (PV.mvI (.inr rfl) rfl) ?_
  refine RG.nil ?_
  refine WP.seq ?_
  refine WP.region ?_
  refine RG.pv rfl (PV.move (v := v) rfl rfl) ?_
  refine RG.pv rfl (PV.mvI (.inl rfl) rfl) ?_
  refine RG.pv rfl (PV.mvI (.inl rfl) rfl) ?_
  refine RG.pv rfl (PV.move (v := p) rfl rfl) ?_
  refine RG.pv rfl (PV.move (v := fv) rfl rfl) ?_
  refine RG.callF (vs := [v, _, _, p, fv]) rfl rfl En277 rfl (order2_rss (Rs.up h1) (by omega) (by omega) (by omega) (fun i j hi hj => (hf i j hi hj).up) hs ?_)
  refine RG.pv rfl (PV.move rfl rfl) ?_
  refine RG.pv rfl (PV.ext rfl rfl rfl) ?_
  refine RG.pv rfl (PV.ext rfl rfl rfl) ?_
  refine RG.pv rfl (PV.mvI (.inr rfl) rfl) ?_
  refine RG.pv rfl (PV.mvI (.inr rfl) rfl) ?_
  refine RG.nil ?_
  refine WP.seq ?_
  refine WP.region ?_
  refine RG.pv rfl (PV.mvI (.inl rfl) rfl) ?_
  refine RG.pv rfl (PV.mvI (.inr rfl) rfl) ?_
  refine RG.nil ?_
  refine WP.ret ?_
  exact ⟨_, _, ResV.one rfl rfl, Cv.p, k⟩
theorem medianAdj_rss {v fv p : Value} {xs : List (Sl Rect)} {a : Int} {cf : Nat → Nat → Int} (h1 : Rs G L slT v xs) (ha : 0 < a) (hc : a + 1 < xs.length) (hf : ∀ i j, i < xs.length → j < xs.length → CB Tryz.prog G L fv [Sl.v (gd xs i), Sl.v (gd xs j)] (vi (cf i j))) (hs : ∀ i j, i < j → j < xs.length → ¬ cf j i < 0) (k : R (vi a) G L) : CallT Tryz.prog 275 #[v, vi a, p, fv] G L R := by
  refine CallT.bd h1 fun hbd => ?_
  refine CallT.enter (args := _) Tryz.func275 rfl rfl (by kernel_rfl) rfl ?_
  refine WP.seq ?_
  refine WP.region ?_
  refine RG.pv rfl (PV.mvI (.inr rfl) rfl) ?_
  refine RG.nil ?_
  refine WP.seq ?_
  refine WP.region ?_
  refine RG.pv rfl (PV.move (v := v) rfl rfl) ?_
  refine RG.pv rfl (PV.mvI (.inl rfl) rfl) ?_
  refine RG.pv rfl (PV.sub rfl rfl rfl (by omega)) ?_
  refine RG.pv rfl (PV.mvI (.inl rfl) rfl) ?_
  refine RG.pv rfl (PV.mvI (.inl rfl) rfl) ?_
  refine RG.pv rfl (PV.add rfl rfl rfl (by omega)) ?_
  refine RG.pv rfl (PV.move (v := p) rfl rfl) ?_
  refine RG.pv rfl (PV.move (v := fv) rfl rfl) ?_
  refine RG.callF (vs := [v, _, _, _, p, fv]) rfl rfl En276 rfl (median_rss (Rs.up h1) (by omega) (by omega) (by omega) (by omega) (fun i j hi hj => (hf i j hi hj).up) hs ?_)
  refine RG.pv rfl (PV.mvI (.inr rfl) rfl) ?_
  refine RG.nil ?_
  refine WP.ret ?_
  exact ⟨_, _, ResV.one rfl rfl, Cv.p, k⟩
theorem choosePivot_rss {v fv : Value} {xs : List (Sl Rect)} {a b : Int} {cf : Nat → Nat → Int} (h1 : Rs G L slT v xs) (h0 : 0 ≤ a) (hab : 8 ≤ b - a) (hb : b ≤ xs.length) (hf : ∀ i j, i < xs.length → j < xs.length → CB Tryz.prog G L fv [Sl.v (gd xs i), Sl.v (gd xs j)] (vi (cf i j))) (hs : ∀ i j, i < j → j < xs.length → ¬ cf j i < 0) (k : ∀ p, R (.tuple #[vi p, vi 1]) G L) : CallT Tryz.prog 265 #[v, vi a, vi b, fv] G L R := by
  refine CallT.bd h1 fun hbd => ?_
  refine CallT.enter (args := _) Tryz.func265 rfl rfl (by kernel_rfl) rfl ?_
  refine WP.seq ?_
  refine WP.region ?_
  refine RG.pv rfl (PV.mvI (.inr rfl) rfl) ?_
  refine RG.pv rfl (PV.mvI (.inr rfl) rfl) ?_
  refine RG.nil ?_
  refine WP.seq ?_
  refine WP.region ?_
  refine RG.pv rfl (PV.mvI (.inl rfl) rfl) ?_
  refine RG.pv rfl (PV.mvI (.inl rfl) rfl) ?_
  refine RG.pv rfl (PV.sub rfl rfl rfl (by omega)) ?_
  refine RG.pv rfl (PV.mvI (.inr rfl) rfl) ?_
  refine RG.nil ?_
  refine WP.seq ?_
  refine WP.region ?_
  refine RG.ot rfl (OT.alloc rfl Zr3 fun b11 => ?_)
  refine RG.nil ?_
  refine WP.seq ?_
  refine WP.region ?_
  refine RG.pv rfl (PV.mvI (.inl rfl) rfl) ?_
  refine RG.pv rfl (PV.mvI (.inl rfl) rfl) ?_
  refine RG.pv rfl (PV.quo rfl rfl rfl (by omega) (by omega) (by omega)) ?_
  refine RG.pv rfl (PV.mul rfl rfl rfl (by omega)) ?_
  refine RG.pv rfl (PV.add rfl rfl rfl (by omega)) ?_
  refine RG.pv rfl (PV.mvI (.inr rfl) rfl) ?_
  refine RG.nil ?_
  refine WP.seq ?_
  refine WP.region ?_
  refine RG.pv rfl (PV.mvI (.inl rfl) rfl) ?_
  refine RG.pv rfl (PV.mvI (.inl rfl) rfl) ?_
  refine RG.pv rfl (PV.quo rfl rfl rfl (by omega) (by omega) (by omega)) ?_
  refine RG.pv rfl (PV.mul rfl rfl rfl (by omega)) ?_
  refine RG.pv rfl (PV.add rfl rfl rfl (by omega)) ?_
  refine RG.pv rfl (PV.mvI (.inr rfl) rfl) ?_
  refine RG.nil ?_
  refine WP.seq ?_
  refine WP.region ?_
  refine RG.pv rfl (PV.mvI (.inl rfl) rfl) ?_
  refine RG.pv rfl (PV.mvI (.inl rfl) rfl) ?_
  refine RG.pv rfl (PV.quo rfl rfl rfl (by omega) (by omega) (by omega)) ?_
  refine RG.pv rfl (PV.mul rfl rfl rfl (by omega)) ?_
  refine RG.pv rfl (PV.add rfl rfl rfl (by omega)) ?_
  refine RG.pv rfl (PV.mvI (.inr rfl) rfl) ?_
  refine RG.nil ?_
  refine WP.seq ?_
  refine WP.seq ?_
  refine WP.region ?_
  refine RG.pv rfl (PV.mvI (.inl rfl) rfl) ?_
  refine RG.pv rfl (PV.geq rfl rfl rfl) ?_
  refine RG.nil ?_
  refine WP.cond rfl (fun h2 => ?_) (fun h2 => ?_)
  · refine WP.seq ?_
    refine WP.seq ?_
    refine WP.region ?_
    refine RG.pv rfl (PV.mvI (.inl rfl) rfl) ?_
    refine RG.pv rfl (PV.geq rfl rfl rfl) ?_
    refine RG.nil ?_
    refine WP.cond rfl (fun h3 => ?_) (fun h3 => ?_)
    · have h3 := of_decide_eq_true h3
      refine WP.seq ?_
      refine WP.region ?_
      refine RG.pv rfl (PV.move (v := v) rfl rfl) ?_
      refine RG.pv rfl (PV.mvI (.inl rfl) rfl) ?_
      refine RG.pv rfl (PV.move (v := fv) rfl rfl) ?_
      refine RG.callF (vs := [v, _, _, fv]) rfl rfl En275 rfl (medianAdj_rss (Rs.up h1) (by omega) (by omega) (fun i j hi hj => (hf i j hi hj).up) hs ?_)
      refine RG.pv rfl (PV.mvI (.inr rfl) rfl) ?_
      refine RG.nil ?_
      refine WP.seq ?_
      refine WP.region ?_
      refine RG.pv rfl (PV.move (v := v) rfl rfl) ?_
      refine RG.pv rfl (PV.mvI (.inl rfl) rfl) ?_
      refine RG.pv rfl (PV.move (v := fv) rfl rfl) ?_
      refine RG.callF (vs := [v, _, _, fv]) rfl rfl En275 rfl (medianAdj_rss (Rs.up h1) (by omega) (by omega) (fun i j hi hj => (hf i j hi hj).up) hs ?_)
      refine RG.pv rfl (PV.mvI (.inr rfl) rfl) ?_
      refine RG.nil ?_
      refine WP.region ?_
      refine RG.pv rfl (PV.move (v := v) rfl rfl) ?_
      refine RG.pv rfl (PV.mvI (.inl rfl) rfl) ?_
      refine RG.pv rfl (PV.move (v := fv) rfl rfl) ?_
      refine RG.callF (vs := [v, _, _, fv]) rfl rfl En275 rfl (medianAdj_rss (Rs.up h1) (by omega) (by omega) (fun i j hi hj => (hf i j hi hj).up) hs ?_)
      refine RG.pv rfl (PV.mvI (.inr rfl) rfl) ?_
      refine RG.nil ?_
      refine WP.region ?_
      refine RG.pv rfl (PV.move (v := v) rfl rfl) ?_
      refine RG.pv rfl (PV.mvI (.inl rfl) rfl) ?_
      refine RG.pv rfl (PV.mvI (.inl rfl) rfl) ?_
      refine RG.pv rfl (PV.mvI (.inl rfl) rfl) ?_
      refine RG.pv rfl (PV.move (v := fv) rfl rfl) ?_
      refine RG.callF (vs := [v, _, _, _, _, fv]) rfl rfl En276 rfl (median_rss (Rs.up h1) (by omega) (by omega) (by omega) (by omega) (fun i j hi hj => (hf i j hi hj).up) hs ?_)
      refine RG.pv rfl (PV.mvI (.inr rfl) rfl) ?_
      refine RG.nil ?_
      refine WP.seq ?_
      refine WP.region ?_
      refine RG.pv rfl (PV.load1 rfl Sc3 rfl (Rd.blk rfl)) ?_
      refine RG.nil ?_
      refine WP.block ?_
      refine WP.seq ?_
      refine WP.region ?_
      refine RG.pv rfl (PV.eql rfl rfl rfl) ?_
      refine RG.pv rfl (PV.mvB (.inr rfl) rfl) ?_
      refine RG.nil ?_
      refine WP.cond rfl (fun h4 => ?_) (fun h4 => ?_)
      · refine WP.seq ?_
        refine WP.region ?_
        refine RG.pv rfl (PV.mvI (.inl rfl) rfl) ?_
        refine RG.pv rfl (PV.mvI (.inr rfl) rfl) ?_
        refine RG.pv rfl (PV.mvI (.inr rfl) rfl) ?_
        refine RG.nil ?_
        refine WP.ret ?_
        exact ⟨_, _, ResV.two rfl rfl rfl, Cv.p, k _⟩
      · skip
        exact absurd h4 (by decide)
    · refine WP.skip ?_
      refine WP.region ?_
      refine RG.pv rfl (PV.move (v := v) rfl rfl) ?_
      refine RG.pv rfl (PV.mvI (.inl rfl) rfl) ?_
      refine RG.pv rfl (PV.mvI (.inl rfl) rfl) ?_
      refine RG.pv rfl (PV.mvI (.inl rfl) rfl) ?_
      refine RG.pv rfl (PV.move (v := fv) rfl rfl) ?_
      refine RG.callF (vs := [v, _, _, _, _, fv]) rfl rfl En276 rfl (median_rss (Rs.up h1) (by omega) (by omega) (by omega) (by omega) (fun i j hi hj => (hf i j hi hj).up) hs ?_)
      refine RG.pv rfl (PV.mvI (.inr rfl) rfl) ?_
      refine RG.nil ?_
      refine WP.seq ?_
      refine WP.region ?_
      refine RG.pv rfl (PV.load1 rfl Sc3 rfl (Rd.blk rfl)) ?_
      refine RG.nil ?_
      refine WP.block ?_
      refine WP.seq ?_
      refine WP.region ?_
      refine RG.pv rfl (PV.eql rfl rfl rfl) ?_
      refine RG.pv rfl (PV.mvB (.inr rfl) rfl) ?_
      refine RG.nil ?_
      refine WP.cond rfl (fun h4 => ?_) (fun h4 => ?_)
      · refine WP.seq ?_
        refine WP.region ?_
        refine RG.pv rfl (PV.mvI (.inl rfl) rfl) ?_
        refine RG.pv rfl (PV.mvI (.inr rfl) rfl) ?_
        refine RG.pv rfl (PV.mvI (.inr rfl) rfl) ?_
        refine RG.nil ?_
        refine WP.ret ?_
        exact ⟨_, _, ResV.two rfl rfl rfl, Cv.p, k _⟩
      · skip
        exact absurd h4 (by decide)
  · exact absurd (of_decide_eq_false h2) (by omega)
theorem insertion_rss {v fv : Value} {xs : List (Sl Rect)} {a b : Int} {cf : Nat → Nat → Int} (hl : xs.length ≤ 1000000) (h1 : Rs G L slT v xs) (h0 : 0 ≤ a) (hab : a ≤ b) (hb : b ≤ xs.length) (hf : ∀ i j, i < xs.length → j < xs.length → CB Tryz.prog G L fv [Sl.v (gd xs i), Sl.v (gd xs j)] (vi (cf i j))) (hs : ∀ i j, i < j → j < xs.length → ¬ cf j i < 0) (k : R (.tuple #[]) G L) : CallT Tryz.prog 262 #[v, vi a, vi b, fv] G L R := by
  refine CallT.bd h1 fun hbd => ?_
  refine CallT.enter (args := _) Tryz.func262 rfl rfl (by kernel_rfl) rfl ?_
  refine WP.seq ?_
  refine WP.region ?_
  refine RG.pv rfl (PV.mvI (.inl rfl) rfl) ?_
  refine RG.pv rfl (PV.add rfl rfl rfl (by omega)) ?_
  refine RG.pv rfl (PV.mvI (.inr rfl) rfl) ?_
  refine RG.nil ?_
  refine WP.block ?_
  refine WP.loop1 [0, 1, 2, 3] (fun (i : Int) => a + 1 ≤ i) (fun (i : Int) => [(8, vi i)]) (fun (i : Int) => L) (fun (i : Int) => (b - i).toNat) (a + 1) (by omega) ⟨rfl, trivial⟩ Cv.p ?_
  rintro i τ hi
  refine WP.seq ?_
  refine WP.seq ?_
  refine WP.region ?_
  refine RG.pv rfl (PV.mvI (.inl rfl) rfl) ?_
  refine RG.pv rfl (PV.mvI (.inl rfl) rfl) ?_
  refine RG.pv rfl (PV.lss rfl rfl rfl) ?_
  refine RG.nil ?_
  refine WP.cond rfl (fun h2 => ?_) (fun h2 => ?_)
  · have h2 := of_decide_eq_true h2
    refine WP.skip ?_
    refine WP.seq ?_
    refine WP.block ?_
    refine WP.seq ?_
    refine WP.region ?_
    refine RG.pv rfl (PV.mvI (.inl rfl) rfl) ?_
    refine RG.pv rfl (PV.mvI (.inr rfl) rfl) ?_
    refine RG.nil ?_
    refine WP.block ?_
    refine WP.loop1 [0, 1, 2, 3, 8] (fun (u : Unit) => True) (fun (u : Unit) => [(9, vi i)]) (fun (u : Unit) => L) (fun (u : Unit) => 0) () trivial ⟨rfl, trivial⟩ Cv.p ?_
    rintro _u τ1 _
    refine WP.seq ?_
    refine WP.seq ?_
    refine WP.regionQ (by kernel_rfl) (by kernel_rfl) ?_
    refine RQ.pv rfl (PV.mvI (.inl rfl) rfl) ?_
    refine RQ.pv rfl (PV.mvI (.inl rfl) rfl) ?_
    refine RQ.pv rfl (PV.gtr rfl rfl rfl) ?_
    refine RQ.pv rfl (PV.mvB (.inl rfl) rfl) ?_
    refine RQ.gs rfl rfl rfl (fun hp => (PV.move (v := fv) rfl rfl)) ?_
    refine RQ.gs rfl rfl rfl (fun hp => (PV.move (v := v) rfl rfl)) ?_
    refine RQ.gs rfl rfl rfl (fun hp => (PV.mvI (.inl rfl) rfl)) ?_
    refine RQ.gs rfl rfl rfl (fun hp => (PV.idxS (j := i.toNat) (v := v) rfl Is50 (gs_t hp) (SlF.r h1) (gs_t hp) (by first | omega | (simp at hp; omega)) (by first | omega | (simp at hp; omega)))) ?_
    refine RQ.gs rfl rfl rfl (fun hp => (PV.loadE1 rfl Sc35 (gs_t hp) rfl (El.r h1 (getG (by first | omega | (simp at hp; omega)))) rfl)) ?_
    refine RQ.gs rfl rfl rfl (fun hp => (PV.move (v := v) rfl rfl)) ?_
    refine RQ.gs rfl rfl rfl (fun hp => (PV.mvI (.inl rfl) rfl)) ?_
    refine RQ.gs rfl rfl rfl (fun hp => (PV.sub rfl (gs_t hp) rfl (by first | omega | (simp at hp; omega)))) ?_
    refine RQ.gs rfl rfl rfl (fun hp => (PV.idxS (j := (i - 1).toNat) (v := v) rfl Is50 (gs_t hp) (SlF.r h1) (gs_t hp) (by first | omega | (simp at hp; omega)) (by first | omega | (simp at hp; omega)))) ?_
    refine RQ.gs rfl rfl rfl (fun hp => (PV.loadE1 rfl Sc35 (gs_t hp) rfl (El.r h1 (getG (by first | omega | (simp at hp; omega)))) rfl)) ?_
    refine RQ.gsB rfl rfl rfl rfl (fun hp => ⟨(gs_t hp), _, (acons (gs_t hp) (acons (gs_t hp) anil)), CB.up (hf i.toNat (i - 1).toNat (by omega) (by omega))⟩) ?_
    refine RQ.gs rfl rfl rfl (fun hp => (PV.lss rfl (gs_t hp) rfl)) ?_
    refine RQ.pv rfl (PV.pickA rfl rfl (fun hq => gs_t (geqT hq)) rfl) ?_
    refine RQ.nil ?_
    refine WP.cond rfl (fun h3 => ?_) (fun h3 => ?_)
    · have h4 := hs (i - 1).toNat i.toNat (by omega) (by omega)
      simp only [Bool.and_eq_true, decide_eq_true_eq] at h3
      exact absurd h3.2 h4
    · refine WP.exit ?_
      refine WP.region ?_
      refine RG.pv rfl (PV.mvI (.inl rfl) rfl) ?_
      refine RG.pv rfl (PV.add rfl rfl rfl (by omega)) ?_
      refine RG.pv rfl (PV.mvI (.inr rfl) rfl) ?_
      refine RG.nil ?_
      exact ⟨rfl, i + 1, (by omega), ⟨rfl, trivial⟩, ⟨rfl, rfl, rfl, rfl, trivial⟩, Cv.p, by omega⟩
  · have h2 := of_decide_eq_false h2
    refine WP.exit ?_
    exact ⟨_, _, ResV.zero rfl, Cv.p, k⟩
theorem partialIns_rss {v fv : Value} {xs : List (Sl Rect)} {a b : Int} {cf : Nat → Nat → Int} (h1 : Rs G L slT v xs) (h0 : 0 ≤ a) (hab : a < b) (hb : b ≤ xs.length) (hf : ∀ i j, i < xs.length → j < xs.length → CB Tryz.prog G L fv [Sl.v (gd xs i), Sl.v (gd xs j)] (vi (cf i j))) (hs : ∀ i j, i < j → j < xs.length → ¬ cf j i < 0) (k : R (.bool true) G L) : CallT Tryz.prog 267 #[v, vi a, vi b, fv] G L R := by
  refine CallT.bd h1 fun hbd => ?_
  refine CallT.enter (args := _) Tryz.func267 rfl rfl (by kernel_rfl) rfl ?_
  refine WP.seq ?_
  refine WP.region ?_
  refine RG.pv rfl (PV.mvB (.inr rfl) rfl) ?_
  refine RG.nil ?_
  refine WP.seq ?_
  refine WP.region ?_
  refine RG.pv rfl (PV.mvI (.inl rfl) rfl) ?_
  refine RG.pv rfl (PV.add rfl rfl rfl (by omega)) ?_
  refine RG.pv rfl (PV.mvI (.inr rfl) rfl) ?_
  refine RG.nil ?_
  refine WP.seq ?_
  refine WP.seq ?_
  refine WP.region ?_
  refine RG.pv rfl (PV.mvI (.inr rfl) rfl) ?_
  refine RG.nil ?_
  refine WP.block ?_
  refine WP.loop1 [0, 1, 2, 3] (fun (u : Unit) => True) (fun (u : Unit) => [(9, vi (a + 1)), (10, vi 0)]) (fun (u : Unit) => L) (fun (u : Unit) => 0) () trivial ⟨rfl, rfl, trivial⟩ Cv.p ?_
  rintro _u τ _
  refine WP.seq ?_
  refine WP.seq ?_
  refine WP.region ?_
  refine RG.pv rfl (PV.mvI (.inl rfl) rfl) ?_
  refine RG.pv rfl (PV.lss rfl rfl rfl) ?_
  refine RG.nil ?_
  refine WP.cond rfl (fun h2 => ?_) (fun h2 => ?_)
  · refine WP.skip ?_
    refine WP.seq ?_
    refine WP.block ?_
    refine WP.seq ?_
    refine WP.block ?_
    refine WP.loop1 [0, 1, 2, 3, 10] (fun (i : Int) => a + 1 ≤ i ∧ i ≤ b) (fun (i : Int) => [(9, vi i)]) (fun (i : Int) => L) (fun (i : Int) => (b - i).toNat) (a + 1) (by omega) ⟨rfl, trivial⟩ Cv.p ?_
    rintro i τ1 hi
    refine WP.seq ?_
    refine WP.seq ?_
    refine WP.regionQ (by kernel_rfl) (by kernel_rfl) ?_
    refine RQ.pv rfl (PV.mvI (.inl rfl) rfl) ?_
    refine RQ.pv rfl (PV.mvI (.inl rfl) rfl) ?_
    refine RQ.pv rfl (PV.lss rfl rfl rfl) ?_
    refine RQ.pv rfl (PV.mvB (.inl rfl) rfl) ?_
    refine RQ.gs rfl rfl rfl (fun hp => (PV.move (v := fv) rfl rfl)) ?_
    refine RQ.gs rfl rfl rfl (fun hp => (PV.move (v := v) rfl rfl)) ?_
    refine RQ.gs rfl rfl rfl (fun hp => (PV.mvI (.inl rfl) rfl)) ?_
    refine RQ.gs rfl rfl rfl (fun hp => (PV.idxS (j := i.toNat) (v := v) rfl Is50 (gs_t hp) (SlF.r h1) (gs_t hp) (by first | omega | (simp at hp; omega)) (by first | omega | (simp at hp; omega)))) ?_
    refine RQ.gs rfl rfl rfl (fun hp => (PV.loadE1 rfl Sc35 (gs_t hp) rfl (El.r h1 (getG (by first | omega | (simp at hp; omega)))) rfl)) ?_
    refine RQ.gs rfl rfl rfl (fun hp => (PV.move (v := v) rfl rfl)) ?_
    refine RQ.gs rfl rfl rfl (fun hp => (PV.mvI (.inl rfl) rfl)) ?_
    refine RQ.gs rfl rfl rfl (fun hp => (PV.sub rfl (gs_t hp) rfl (by first | omega | (simp at hp; omega)))) ?_
    refine RQ.gs rfl rfl rfl (fun hp => (PV.idxS (j := (i - 1).toNat) (v := v) rfl Is50 (gs_t hp) (SlF.r h1) (gs_t hp) (by first | omega | (simp at hp; omega)) (by first | omega | (simp at hp; omega)))) ?_
    refine RQ.gs rfl rfl rfl (fun hp => (PV.loadE1 rfl Sc35 (gs_t hp) rfl (El.r h1 (getG (by first | omega | (simp at hp; omega)))) rfl)) ?_
    refine RQ.gsB rfl rfl rfl rfl (fun hp => ⟨(gs_t hp), _, (acons (gs_t hp) (acons (gs_t hp) anil)), CB.up (hf i.toNat (i - 1).toNat (by simp at hp; omega) (by simp at hp; omega))⟩) ?_
    refine RQ.gs rfl rfl rfl (fun hp => (PV.lss rfl (gs_t hp) rfl)) ?_
    refine RQ.gs rfl rfl rfl (fun hp => (PV.not rfl (gs_t hp))) ?_
    refine RQ.pv rfl (PV.pickA rfl rfl (fun hq => gs_t (geqT hq)) rfl) ?_
    refine RQ.nil ?_
    refine WP.cond rfl (fun h3 => ?_) (fun h3 => ?_)
    · have h4 : i < b := by simp at h3; omega
      refine WP.skip ?_
      refine WP.block ?_
      refine WP.region ?_
      refine RG.pv rfl (PV.mvI (.inl rfl) rfl) ?_
      refine RG.pv rfl (PV.add rfl rfl rfl (by omega)) ?_
      refine RG.pv rfl (PV.mvI (.inr rfl) rfl) ?_
      refine RG.nil ?_
      exact ⟨rfl, i + 1, (by omega), ⟨rfl, trivial⟩, ⟨rfl, rfl, rfl, rfl, rfl, trivial⟩, Cv.p, by omega⟩
    · have h4 : i = b := by
        by_cases e : i < b
        · have h4 := hs (i - 1).toNat i.toNat (by omega) (by omega)
          simp only [Bool.and_eq_false_iff, decide_eq_false_iff_not, Bool.not_eq_false', decide_eq_true_eq] at h3
          omega
        · omega
      subst h4
      refine WP.exit ?_
      refine WP.seq ?_
      refine WP.seq ?_
      refine WP.region ?_
      refine RG.pv rfl (PV.mvI (.inl rfl) rfl) ?_
      refine RG.pv rfl (PV.mvI (.inl rfl) rfl) ?_
      refine RG.pv rfl (PV.eql rfl rfl rfl) ?_
      refine RG.nil ?_
      refine WP.cond rfl (fun h5 => ?_) (fun h5 => ?_)
      · refine WP.seq ?_
        refine WP.region ?_
        refine RG.pv rfl (PV.mvB (.inr rfl) rfl) ?_
        refine RG.nil ?_
        refine WP.ret ?_
        exact ⟨_, _, ResV.one rfl rfl, Cv.p, k⟩
      · simp at h5
  · exact absurd h2 (by decide)
theorem pdq_rss {v fv : Value} {xs : List (Sl Rect)} {n l : Int} {cf : Nat → Nat → Int} (hl : xs.length ≤ 1000000) (h1 : Rs G L slT v xs) (hn : n = xs.length) (hl0 : 12 < n → l ≠ 0) (hf : ∀ i j, i < xs.length → j < xs.length → CB Tryz.prog G L fv [Sl.v (gd xs i), Sl.v (gd xs j)] (vi (cf i j))) (hs : ∀ i j, i < j → j < xs.length → ¬ cf j i < 0) (k : R (.tuple #[]) G L) : CallT Tryz.prog 260 #[v, vi 0, vi n, vi l, fv] G L R := by
  refine CallT.bd h1 fun hbd => ?_
  refine CallT.enter (args := _) Tryz.func260 rfl rfl (by kernel_rfl) rfl ?_
  refine WP.seq ?_
  refine WP.region ?_
  refine RG.pv rfl (PV.mvB (.inr rfl) rfl) ?_
  refine RG.nil ?_
  refine WP.seq ?_
  refine WP.region ?_
  refine RG.pv rfl (PV.mvB (.inr rfl) rfl) ?_
  refine RG.nil ?_
  refine WP.block ?_
  refine WP.loop1 [0, 4] (fun (u : Unit) => True) (fun (u : Unit) => [(1, vi 0), (2, vi n), (3, vi l), (10, .bool true), (11, .bool true)]) (fun (u : Unit) => L) (fun (u : Unit) => 0) () trivial ⟨rfl, rfl, rfl, rfl, rfl, trivial⟩ Cv.p ?_
  rintro _u τ _
  refine WP.block ?_
  refine WP.seq ?_
  refine WP.region ?_
  refine RG.pv rfl (PV.mvI (.inl rfl) rfl) ?_
  refine RG.pv rfl (PV.mvI (.inl rfl) rfl) ?_
  refine RG.pv rfl (PV.sub rfl rfl rfl (by omega)) ?_
  refine RG.pv rfl (PV.mvI (.inr rfl) rfl) ?_
  refine RG.nil ?_
  refine WP.seq ?_
  refine WP.seq ?_
  refine WP.region ?_
  refine RG.pv rfl (PV.mvI (.inl rfl) rfl) ?_
  refine RG.pv rfl (PV.leq rfl rfl rfl) ?_
  refine RG.nil ?_
  refine WP.cond rfl (fun h2 => ?_) (fun h2 => ?_)
  · have h2 := of_decide_eq_true h2
    refine WP.seq ?_
    refine WP.region ?_
    refine RG.pv rfl (PV.move (v := v) rfl rfl) ?_
    refine RG.pv rfl (PV.mvI (.inl rfl) rfl) ?_
    refine RG.pv rfl (PV.mvI (.inl rfl) rfl) ?_
    refine RG.pv rfl (PV.move (v := fv) rfl rfl) ?_
    refine RG.callF (vs := [v, _, _, fv]) rfl rfl En262 rfl (insertion_rss hl (Rs.up h1) (by omega) (by omega) (by omega) (fun i j hi hj => (hf i j hi hj).up) hs ?_)
    refine RG.nil ?_
    refine WP.ret ?_
    exact ⟨_, _, ResV.zero rfl, Cv.p, k⟩
  · have h2 := of_decide_eq_false h2
    refine WP.skip ?_
    refine WP.seq ?_
    refine WP.seq ?_
    refine WP.region ?_
    refine RG.pv rfl (PV.mvI (.inl rfl) rfl) ?_
    refine RG.pv rfl (PV.eql rfl rfl rfl) ?_
    refine RG.nil ?_
    refine WP.cond rfl (fun h3 => ?_) (fun h3 => ?_)
    · exact absurd (of_decide_eq_true h3) (hl0 (by omega))
    · refine WP.skip ?_
      refine WP.seq ?_
      refine WP.seq ?_
      refine WP.region ?_
      refine RG.pv rfl (PV.mvB (.inl rfl) rfl) ?_
      refine RG.pv rfl (PV.not rfl rfl) ?_
      refine RG.nil ?_
      refine WP.cond rfl (fun h4 => ?_) (fun h4 => ?_)
      · exact absurd h4 (by decide)
      · refine WP.skip ?_
        refine WP.seq ?_
        refine WP.region ?_
        refine RG.pv rfl (PV.move (v := v) rfl rfl) ?_
        refine RG.pv rfl (PV.mvI (.inl rfl) rfl) ?_
        refine RG.pv rfl (PV.mvI (.inl rfl) rfl) ?_
        refine RG.pv rfl (PV.move (v := fv) rfl rfl) ?_
        refine RG.callF (vs := [v, _, _, fv]) rfl rfl En265 rfl (choosePivot_rss (Rs.up h1) (by omega) (by omega) (by omega) (fun i j hi hj => (hf i j hi hj).up) hs (fun pw52 => ?_))
        refine RG.pv rfl (PV.move (v := .tuple _) rfl rfl) ?_
        refine RG.pv rfl (PV.ext rfl rfl rfl) ?_
        refine RG.pv rfl (PV.ext rfl rfl rfl) ?_
        refine RG.pv rfl (PV.mvI (.inr rfl) rfl) ?_
        refine RG.pv rfl (PV.mvI (.inr rfl) rfl) ?_
        refine RG.nil ?_
        refine WP.seq ?_
        refine WP.seq ?_
        refine WP.region ?_
        refine RG.pv rfl (PV.mvI (.inl rfl) rfl) ?_
        refine RG.pv rfl (PV.eql rfl rfl rfl) ?_
        refine RG.nil ?_
        refine WP.cond rfl (fun h5 => ?_) (fun h5 => ?_)
        · exact absurd h5 (by decide)
        · refine WP.skip ?_
          refine WP.seq ?_
          refine WP.seq ?_
          refine WP.region ?_
          refine RG.pv rfl (PV.mvB (.inl rfl) rfl) ?_
          refine RG.pv rfl (PV.mvB (.inl rfl) rfl) ?_
          refine RG.gs rfl rfl rfl (fun hp => (PV.mvB (.inl rfl) rfl)) ?_
          refine RG.pv rfl (PV.pickA rfl rfl (fun hq => gs_t (geqT hq)) rfl) ?_
          refine RG.pv rfl (PV.mvB (.inl rfl) rfl) ?_
          refine RG.gs rfl rfl rfl (fun hp => (PV.mvI (.inl rfl) rfl)) ?_
          refine RG.gs rfl rfl rfl (fun hp => (PV.eql rfl (gs_t hp) rfl)) ?_
          refine RG.pv rfl (PV.pickA rfl rfl (fun hq => gs_t (geqT hq)) rfl) ?_
          refine RG.nil ?_
          refine WP.cond rfl (fun h6 => ?_) (fun h6 => ?_)
          · refine WP.seq ?_
            refine WP.region ?_
            refine RG.pv rfl (PV.move (v := v) rfl rfl) ?_
            refine RG.pv rfl (PV.mvI (.inl rfl) rfl) ?_
            refine RG.pv rfl (PV.mvI (.inl rfl) rfl) ?_
            refine RG.pv rfl (PV.move (v := fv) rfl rfl) ?_
            refine RG.callF (vs := [v, _, _, fv]) rfl rfl En267 rfl (partialIns_rss (Rs.up h1) (by omega) (by omega) (by omega) (fun i j hi hj => (hf i j hi hj).up) hs ?_)
            refine RG.nil ?_
            refine WP.cond rfl (fun h7 => ?_) (fun h7 => ?_)
            · refine WP.ret ?_
              exact ⟨_, _, ResV.zero rfl, Cv.p, k⟩
            · skip
              exact absurd h7 (by decide)
          · exact absurd h6 (by decide)
theorem sorted_rss {v fv : Value} {xs : List (Sl Rect)} {cf : Nat → Nat → Int} (hl : xs.length ≤ 6400) (h1 : Rs G L slT v xs) (hf : ∀ i j, i < xs.length → j < xs.length → CB Tryz.prog G L fv [Sl.v (gd xs i), Sl.v (gd xs j)] (vi (cf i j))) (hs : ∀ i j, i < j → j < xs.length → ¬ cf j i < 0) (k : R (.tuple #[]) G L) : CallT Tryz.prog 248 #[v, fv] G L R := by
  refine CallT.bd h1 fun hbd => ?_
  refine CallT.enter (args := _) Tryz.func248 rfl rfl (by kernel_rfl) rfl ?_
  refine WP.seq ?_
  refine WP.region ?_
  refine RG.pv rfl (PV.move (v := v) rfl rfl) ?_
  refine RG.pv rfl (PV.len (v := v) rfl Tryz.underlying50 rfl (SlF.r h1)) ?_
  refine RG.pv rfl (PV.mvI (.inr rfl) rfl) ?_
  refine RG.nil ?_
  refine WP.region ?_
  refine RG.pv rfl (PV.move (v := v) rfl rfl) ?_
  refine RG.pv rfl (PV.mvI (.inl rfl) rfl) ?_
  refine RG.pv rfl (PV.mvI (.inl rfl) rfl) ?_
  refine RG.pv rfl (PV.conv rfl ⟨_, Tryz.underlying3⟩ Tryz.underlying243 rfl rfl) ?_
  refine RG.callF (vs := [_]) rfl rfl En261 rfl (bitsLen_s (by rw [u64w (by omega)]; omega) (fun lw11 hl0w11 => ?_))
  refine RG.pv rfl (PV.move (v := fv) rfl rfl) ?_
  refine RG.callF (vs := [v, _, _, _, fv]) rfl rfl En260 rfl (pdq_rss (by omega) (Rs.up h1) rfl (fun h => hl0w11 (by rw [u64w (by omega)]; omega)) (fun i j hi hj => (hf i j hi hj).up) hs ?_)
  refine RG.nil ?_
  exact ⟨_, _, ResV.zero rfl, Cv.p, k⟩
end Go.Proofs.YtgngpegmaceaiaaGreat
namespace Go.Proofs.YtgngpegmaceaiaaGreat
set_option linter.unusedVariables false
set_option linter.unusedSimpArgs false
open Go
theorem runsFrom_first (r : Nat → Bool) (X : Nat) (hX : X < 80) (hr : r X = true) (x : Nat) (hx : x ≤ X) (h0 : ∀ z, x ≤ z → z < X → r z = false) : ∃ e l, runsFrom r x = (X, e) :: l := by
  rw [runsFrom, if_pos (by omega)]
  by_cases e : x = X
  · subst e; rw [if_pos hr]; exact ⟨_, _, rfl⟩
  · rw [if_neg (by simp [h0 x (Nat.le_refl _) (by omega)])]
    exact runsFrom_first r X hX hr (x + 1) (by omega) fun z h1 h2 => h0 z (by omega) h2
termination_by 80 - x
theorem runsFrom_none (r : Nat → Bool) (x : Nat) (h0 : ∀ z, x ≤ z → z < 80 → r z = false) : runsFrom r x = [] := by
  rw [runsFrom]; split
  · rename_i h
    rw [if_neg (by simp [h0 x (Nat.le_refl _) h])]
    exact runsFrom_none r (x + 1) fun z h1 h2 => h0 z (by omega) h2
  · rfl
termination_by 80 - x
theorem canonFrom_first (bs : List Bool) (Y X : Nat) (hY : Y < 80) (hX : X < 80) (hb : gb bs Y X = true) (hx : ∀ z, z < X → gb bs Y z = false) (y : Nat) (hy : y ≤ Y) (h0 : ∀ z x, y ≤ z → z < Y → x < 80 → gb bs z x = false) : ∃ e f l, canonFrom bs y = mkR Y e (X, f) :: l := by
  rw [canonFrom, if_pos (by omega)]
  by_cases e : y = Y
  · subst e
    obtain ⟨f, l, hf⟩ := runsFrom_first (gb bs y) X hX hb 0 (by omega) fun z _ h => hx z h
    rw [hf]; exact ⟨_, _, _, rfl⟩
  · rw [runsFrom_none (gb bs y) 0 fun z _ h => h0 y z (Nat.le_refl _) (by omega) h, List.map_nil, List.nil_append]
    have h1 := endFrom_ge bs y (y + 1)
    have h2 : endFrom bs y (y + 1) ≤ Y := by
      by_cases c : endFrom bs y (y + 1) ≤ Y
      · exact c
      · have h3 := rowsEq_gb' (endFrom_eq bs y (y + 1) Y (by omega) (by omega)) X hX
        rw [hb, h0 y X (Nat.le_refl _) (by omega) hX] at h3; cases h3
    exact canonFrom_first bs Y X hY hX hb hx (endFrom bs y (y + 1)) h2 fun z x h3 h4 h5 => h0 z x (by omega) h4 h5
termination_by 80 - y
/-- the first rectangle of a part begins at its first cell -/
theorem canon_first {S : List Bool} {n : Nat} (h : First S n) : 0 < (canon (compB S (cel n))).length ∧ (gd (canon (compB S (cel n))) 0).y0 = ((n / 80 : Nat) : Int) - 40 ∧ (gd (canon (compB S (cel n))) 0).x0 = ((n % 80 : Nat) : Int) - 40 := by
  obtain ⟨h1, h2⟩ := h
  have hY : n / 80 < 80 := h1.1
  have hX : n % 80 < 80 := h1.2.1
  have key : ∀ y x, y < 80 → x < 80 → y * 80 + x < n → gb (compB S (cel n)) y x = false := fun y x hy hx hlt => by
    cases hg : gb (compB S (cel n)) y x with
    | false => rfl
    | true =>
      exfalso
      have hc := (comp_iff hy hx).1 hg
      have hon := hc.on h1
      have e : cel (y * 80 + x) = (y, x) := cel_pos (a := (y, x)) hx
      exact h2 _ hlt (by rw [e]; exact hon) (by rw [e]; exact hc.symm h1)
  have hb : gb (compB S (cel n)) (n / 80) (n % 80) = true := (comp_iff hY hX).2 .refl
  obtain ⟨e, f, l, hc⟩ := canonFrom_first (compB S (cel n)) (n / 80) (n % 80) hY hX hb (fun z hz => key _ _ hY (by omega) (by omega)) 0 (by omega) fun z x _ hz hx => key z x (by omega) hx (by omega)
  rw [canon, hc]
  refine ⟨by simp, ?_, ?_⟩ <;> simp [gd, mkR]
theorem cel_div {n : Nat} (h : n < 6400) : n / 80 < 80 := by omega
structure PI {β : Type} (f : List Bool → β) (S : List Bool) (n : Nat) (T : List Bool) (zs : List β) : Prop where
  len : T.length = 6400
  left : ∀ a, On T a ↔ Left S n a
  er : zs = (firsts S n).map fun j => f (compB S (cel j))
theorem PI.start {β : Type} {f : List Bool → β} {S : List Bool} (h : S.length = 6400) : PI f S 0 S [] := ⟨h, fun _ => left_zero.symm, rfl⟩
theorem on_cel {T : List Bool} {n : Nat} (hn : n < 6400) : On T (cel n) ↔ gb T (n / 80) (n % 80) = true := ⟨fun h => h.2.2, fun h => ⟨by simp only [cel]; omega, by simp only [cel]; omega, h⟩⟩
theorem PI.skip {β : Type} {f : List Bool → β} {S T : List Bool} {n : Nat} {zs : List β} (h : PI f S n T zs) (hn : n < 6400) (hg : gb T (n / 80) (n % 80) = false) : PI f S (n + 1) T zs := by
  have hf : ¬ First S n := fun hf => by
    have := (on_cel hn).1 ((h.left _).2 (left_first.2 hf)); rw [hg] at this; cases this
  refine ⟨h.len, fun a => (h.left a).trans (left_succ_skip hf).symm, ?_⟩
  rw [firsts_succ, if_neg hf]; exact h.er
theorem PI.first {β : Type} {f : List Bool → β} {S T : List Bool} {n : Nat} {zs : List β} (h : PI f S n T zs) (hn : n < 6400) (hg : gb T (n / 80) (n % 80) = true) : First S n := left_first.1 ((h.left _).1 ((on_cel hn).2 hg))
theorem PI.comp {β : Type} {f : List Bool → β} {S T : List Bool} {n : Nat} {zs : List β} (h : PI f S n T zs) (hn : n < 6400) (hg : gb T (n / 80) (n % 80) = true) : compB T (cel n) = compB S (cel n) := comp_left h.left (left_first.2 (h.first hn hg))
theorem PI.take {β : Type} {f : List Bool → β} {S T T' : List Bool} {n : Nat} {zs : List β} (h : PI f S n T zs) (hn : n < 6400) (hg : gb T (n / 80) (n % 80) = true) (hl : T'.length = 6400) (hg' : ∀ y x, y < 80 → x < 80 → gb T' y x = (gb T y x && !gb (compB T (cel n)) y x)) : PI f S (n + 1) T' (zs ++ [f (compB T (cel n))]) := by
  have hf := h.first hn hg
  have hc := h.comp hn hg
  refine ⟨hl, fun a => ?_, ?_⟩
  · rw [left_succ_take hf, ← h.left a]
    constructor
    · rintro ⟨h1, h2, h3⟩
      rw [hg' _ _ h1 h2, Bool.and_eq_true, Bool.not_eq_true', hc] at h3
      refine ⟨⟨h1, h2, h3.1⟩, fun k => ?_⟩
      have := (comp_iff h1 h2).2 k; rw [h3.2] at this; cases this
    · rintro ⟨⟨h1, h2, h3⟩, h4⟩
      refine ⟨h1, h2, ?_⟩
      rw [hg' _ _ h1 h2, h3, hc, Bool.true_and, Bool.not_eq_true']
      cases hb : gb (compB S (cel n)) a.1 a.2 with
      | false => rfl
      | true => exact absurd ((comp_iff h1 h2).1 hb) h4
  · rw [firsts_succ, if_pos hf, List.map_append, ← h.er, hc]; rfl
noncomputable def partsL (S : List Bool) : List (List Rect) := (comps S).map canon
theorem PI.all {S T : List Bool} {zs : List (List Bool)} (h : PI id S 6400 T zs) : zs = comps S := by
  rw [h.er, comps]; simp only [id]
theorem PI.final {S T : List Bool} {zs : List (List Rect)} (h : PI canon S 6400 T zs) : zs = partsL S := by
  rw [h.er, partsL, comps, List.map_map]; simp only [Function.comp_def]
open Classical in
theorem firsts_sorted (S : List Bool) (n : Nat) : (firsts S n).Pairwise (· < ·) := List.Pairwise.filter _ List.pairwise_lt_range
theorem firsts_lt {S : List Bool} {n i j : Nat} (h : i < j) (hj : j < (firsts S n).length) : gd (firsts S n) i < gd (firsts S n) j := by
  rw [gd_eq hj, gd_eq (by omega)]
  exact List.pairwise_iff_getElem.1 (firsts_sorted S n) i j (by omega) hj h
open Classical in
theorem firsts_first {S : List Bool} {n i : Nat} (hi : i < (firsts S n).length) : First S (gd (firsts S n) i) := by
  rw [gd_eq hi]
  have := List.getElem_mem hi
  have := (List.mem_filter.1 this).2
  simpa using this
theorem partsL_len (S : List Bool) : (partsL S).length = (firsts S 6400).length := by simp [partsL, comps]
open Classical in
theorem firsts_len (S : List Bool) (n : Nat) : (firsts S n).length ≤ n := by
  have := List.length_filter_le (fun j => decide (First S j)) (List.range n)
  simpa [firsts] using this
theorem partsL_gd {S : List Bool} {i : Nat} (hi : i < (firsts S 6400).length) : gd (partsL S) i = canon (compB S (cel (gd (firsts S 6400) i))) := by
  rw [gd_eq (by rw [partsL_len]; exact hi), gd_eq hi]; simp [partsL, comps]
/-- a part is taken away, cell by cell -/
def Sub (T C : List Bool) (n : Nat) (U : List Bool) : Prop := U.length = 6400 ∧ ∀ y x, y < 80 → x < 80 → gb U y x = if y * 80 + x < n then (gb T y x && !gb C y x) else gb T y x
theorem Sub.start {T C : List Bool} (h : T.length = 6400) : Sub T C 0 T := ⟨h, fun y x _ _ => by rw [if_neg (by omega)]⟩
theorem Sub.step {T C U : List Bool} {v u m : Nat} (h : Sub T C (v * 80 + u) U) (hv : v < 80) (hu : u < 80) (hm : m = v * 80 + u + 1) : Sub T C m (U.set (0 + v * 80 + u * 1) (gd U (0 + v * 80 + u * 1) && !gd C (0 + v * 80 + u * 1))) := by
  subst hm
  obtain ⟨h1, h2⟩ := h
  refine ⟨by simpa using h1, fun y x hy hx => ?_⟩
  rw [show 0 + v * 80 + u * 1 = v * 80 + u by omega, gb_set' h1 hv hu hx]
  by_cases e : y = v ∧ x = u
  · obtain ⟨rfl, rfl⟩ := e
    rw [if_pos ⟨rfl, rfl⟩, if_pos (by omega)]
    have := h2 y x hv hu
    rw [if_neg (by omega)] at this
    show (gb U y x && !gb C y x) = _
    rw [this]
  · rw [if_neg e, h2 y x hy hx]
    by_cases c : y * 80 + x < v * 80 + u
    · rw [if_pos c, if_pos (by omega)]
    · rw [if_neg c, if_neg (by omega)]
theorem Sub.final {T C U : List Bool} (h : Sub T C 6400 U) : ∀ y x, y < 80 → x < 80 → gb U y x = (gb T y x && !gb C y x) := fun y x hy hx => by
  rw [h.2 y x hy hx, if_pos (by omega)]
def dX (d : Nat) : Int := gd [1, -1, 0, 0] d
def dY (d : Nat) : Int := gd [0, 0, 1, -1] d
theorem dX_le (d : Nat) : -1 ≤ dX d ∧ dX d ≤ 1 := by
  match d with
  | 0 | 1 | 2 | 3 => simp [dX, gd]
  | n + 4 => simp [dX, gd]
theorem dY_le (d : Nat) : -1 ≤ dY d ∧ dY d ≤ 1 := by
  match d with
  | 0 | 1 | 2 | 3 => simp [dY, gd]
  | n + 4 => simp [dY, gd]
def Near4 (S O : List Bool) (p : Cel) (d : Nat) : Prop := ∀ e, e < d → ∀ c : Cel, (c.1 : Int) = p.1 + dY e → (c.2 : Int) = p.2 + dX e → On S c → On O c
theorem Near4.zero (S O : List Bool) (p : Cel) : Near4 S O p 0 := fun e h => by omega
theorem Near4.done {S O : List Bool} {p : Cel} (h : Near4 S O p 4) : ∀ c, Adj p c → On S c → On O c := fun c ha hs => by
  rcases ha with ⟨h1, h2 | h2⟩ | ⟨h1, h2 | h2⟩
  · exact h 1 (by omega) c (by simp [dY, gd]; omega) (by simp [dX, gd]; omega) hs
  · exact h 0 (by omega) c (by simp [dY, gd]; omega) (by simp [dX, gd]; omega) hs
  · exact h 3 (by omega) c (by simp [dY, gd]; omega) (by simp [dX, gd]; omega) hs
  · exact h 2 (by omega) c (by simp [dY, gd]; omega) (by simp [dX, gd]; omega) hs
theorem Near4.step {S O O' : List Bool} {p : Cel} {d : Nat} (h : Near4 S O p d) (hO : ∀ c, On O c → On O' c) (hn : ∀ c : Cel, (c.1 : Int) = p.1 + dY d → (c.2 : Int) = p.2 + dX d → On S c → On O' c) : Near4 S O' p (d + 1) := fun e he c h1 h2 hs => by
  by_cases k : e = d
  · subst k; exact hn c h1 h2 hs
  · exact hO c (h e (by omega) c h1 h2 hs)
theorem Done.next4 {S O : List Bool} {Q : List (Int × Int)} {i : Nat} {p : Cel} (h : Done S O Q i) (hp : qc (gd Q i) = p) (hn : Near4 S O p 4) : Done S O Q (i + 1) := fun m hm c ha hs => by
  by_cases e : m = i
  · subst e; rw [hp] at ha; exact hn.done c ha hs
  · exact h m (by omega) c ha hs
theorem Near4.skip {S O : List Bool} {q : Int × Int} {d : Nat} (h : Near4 S O (qc q) d) (hb : 0 ≤ q.1 ∧ q.1 < 80 ∧ 0 ≤ q.2 ∧ q.2 < 80) (hc : ¬ (0 ≤ q.1 + dX d ∧ q.1 + dX d < 80 ∧ 0 ≤ q.2 + dY d ∧ q.2 + dY d < 80) ∨ gb S (q.2 + dY d).toNat (q.1 + dX d).toNat = false ∨ gb O (q.2 + dY d).toNat (q.1 + dX d).toNat = true) : Near4 S O (qc q) (d + 1) :=
  h.step (fun _ h => h) fun c e1 e2 hs => by
    obtain ⟨c1, c2⟩ := c
    obtain ⟨h1, h2, h3⟩ := hs
    simp only [qc] at *
    have e3 : c1 = (q.2 + dY d).toNat := by omega
    have e4 : c2 = (q.1 + dX d).toNat := by omega
    rcases hc with k | k | k
    · omega
    · rw [← e3, ← e4, h3] at k; cases k
    · exact ⟨h1, h2, by rw [e3, e4]; exact k⟩
theorem Near4.take {S O : List Bool} {q : Int × Int} {d : Nat} (h : Near4 S O (qc q) d) (hl : O.length = 6400) (hb : 0 ≤ q.1 ∧ q.1 < 80 ∧ 0 ≤ q.2 ∧ q.2 < 80) (hx : 0 ≤ q.1 + dX d ∧ q.1 + dX d < 80) (hy : 0 ≤ q.2 + dY d ∧ q.2 + dY d < 80) : Near4 S (O.set ((q.2 + dY d).toNat * 80 + (q.1 + dX d).toNat) true) (qc q) (d + 1) :=
  h.step (fun c hc => on_set hl hx hy hc) fun c e1 e2 hs => by
    obtain ⟨c1, c2⟩ := c
    obtain ⟨h1, h2, h3⟩ := hs
    simp only [qc] at *
    have e3 : c1 = (q.2 + dY d).toNat := by omega
    have e4 : c2 = (q.1 + dX d).toNat := by omega
    refine ⟨h1, h2, ?_⟩
    rw [gb_set' hl (by omega) (by omega) h2, if_pos ⟨e3, e4⟩]
theorem adj4 {q : Int × Int} {d : Nat} (hd : d < 4) (hb : 0 ≤ q.1 ∧ q.1 < 80 ∧ 0 ≤ q.2 ∧ q.2 < 80) (hx : 0 ≤ q.1 + dX d) (hy : 0 ≤ q.2 + dY d) : Adj (qc q) ((q.2 + dY d).toNat, (q.1 + dX d).toNat) := by
  match d with
  | 0 | 1 | 2 | 3 => simp [dX, dY, gd, qc, Adj] at *; omega
end Go.Proofs.YtgngpegmaceaiaaGreat
namespace Go.Proofs.YtgngpegmaceaiaaGreat
set_option linter.unusedVariables false
set_option linter.unusedSimpArgs false
open Go
set_option maxRecDepth 20000
set_option linter.unusedSimpArgs false
variable {G : Gh} {L : List Ch} {R : Value → Gh → List Ch → Prop}
def cmpI (x y : Int) : Int := if x < y then -1 else if y < x then 1 else 0
def orI : List Int → Int
  | [] => 0
  | x :: l => if x ≠ 0 then x else orI l
def cmpR (a b : Rect) : Int := orI [cmpI a.y0 b.y0, cmpI a.x0 b.x0, cmpI a.y1 b.y1, cmpI a.x1 b.x1]
theorem orI_zero : ∀ {xs : List Int} {i : Nat}, (∀ j, j < i → gd xs j = 0) → orI xs = orI (xs.drop i)
  | xs, 0, _ => by simp
  | [], i + 1, _ => by simp
  | x :: xs, i + 1, h => by
    have h0 : x = 0 := by have := h 0 (by omega); simpa [gd] using this
    rw [List.drop_succ_cons, orI, if_neg (by simp [h0])]
    exact orI_zero fun j hj => by have := h (j + 1) (by omega); simpa [gd] using this
theorem orI_at {xs : List Int} {i : Nat} (hi : i < xs.length) (h : ∀ j, j < i → gd xs j = 0) (hx : gd xs i ≠ 0) : orI xs = gd xs i := by
  rw [orI_zero h, List.drop_eq_getElem_cons hi, ← gd_eq hi, orI, if_pos hx]
theorem orI_all {xs : List Int} (h : ∀ j, j < xs.length → gd xs j = 0) : orI xs = 0 := by
  rw [orI_zero h]; simp [orI]
theorem cmpOr_s {v : Value} {xs : List Int} (h1 : Rs G L intT v xs) (k : R (vi (orI xs)) G L) : CallT Tryz.prog 237 #[v] G L R := by
  refine CallT.bd h1 fun hb => ?_
  refine CallT.enter (args := _) Tryz.func237 rfl rfl (by kernel_rfl) rfl ?_
  refine WP.seq ?_
  refine WP.region ?_
  refine RG.pv rfl (PV.mvI (.inr rfl) rfl) ?_
  refine RG.nil ?_
  refine WP.seq ?_
  refine WP.region ?_
  refine RG.pv rfl (PV.mvI (.inr rfl) rfl) ?_
  refine RG.nil ?_
  refine WP.seq ?_
  refine WP.seq ?_
  refine WP.region ?_
  refine RG.pv rfl (PV.move (v := v) rfl rfl) ?_
  refine RG.pv rfl (PV.len (v := v) rfl Tryz.underlying237 rfl (SlF.r h1)) ?_
  refine RG.pv rfl (PV.mvI (.inl rfl) rfl) ?_
  refine RG.nil ?_
  refine WP.block ?_
  refine WP.loop1 [3, 6, 7] (fun i => i ≤ xs.length ∧ ∀ j, j < i → gd xs j = 0) (fun i => [(8, vi i)]) (fun i => L) (fun i => xs.length - i) 0 ⟨by omega, fun j h => by omega⟩ ⟨rfl, trivial⟩ Cv.p ?_
  rintro i τ ⟨hi, hj⟩
  refine WP.seq ?_
  refine WP.region ?_
  refine RG.pv rfl (PV.lss rfl rfl rfl) ?_
  refine RG.nil ?_
  refine WP.seq ?_
  refine WP.cond rfl (fun h2 => ?_) (fun h2 => ?_)
  · have h2 := of_decide_eq_true h2
    refine WP.skip ?_
    refine WP.seq ?_
    refine WP.block ?_
    refine WP.seq ?_
    refine WP.region ?_
    refine RG.pv rfl (PV.idxS (v := v) rfl Is237 rfl (SlF.r h1) rfl rfl (by omega)) ?_
    refine RG.pv rfl (PV.loadE1 rfl Sc3 rfl rfl (El.r h1 (getG (by omega))) rfl) ?_
    refine RG.pv rfl (PV.mvI (.inr rfl) rfl) ?_
    refine RG.nil ?_
    refine WP.seq ?_
    refine WP.region ?_
    refine RG.pv rfl (PV.mvI (.inl rfl) rfl) ?_
    refine RG.pv rfl (PV.mvI (.inl rfl) rfl) ?_
    refine RG.pv rfl (PV.neq rfl rfl rfl) ?_
    refine RG.nil ?_
    refine WP.cond rfl (fun h3 => ?_) (fun h3 => ?_)
    · have h3 : gd xs i ≠ 0 := by simpa using h3
      rw [orI_at (by omega) hj h3] at k
      refine WP.seq ?_
      refine WP.region ?_
      refine RG.pv rfl (PV.mvI (.inl rfl) rfl) ?_
      refine RG.pv rfl (PV.mvI (.inr rfl) rfl) ?_
      refine RG.nil ?_
      refine WP.ret ?_
      exact ⟨_, _, ResV.one rfl rfl, Cv.p, k⟩
    · have h3 : gd xs i = 0 := by simpa using h3
      have hj' : ∀ j, j < i + 1 → gd xs j = 0 := fun j h => by
        by_cases c : j = i
        · rw [c]; exact h3
        · exact hj j (by omega)
      refine WP.skip ?_
      refine WP.region ?_
      refine RG.pv rfl (PV.add rfl rfl rfl (by omega)) ?_
      refine RG.pv rfl (PV.mvI (.inl rfl) rfl) ?_
      refine RG.nil ?_
      exact ⟨rfl, i + 1, ⟨by omega, hj'⟩, ⟨rfl, trivial⟩, ⟨rfl, rfl, rfl, trivial⟩, Cv.p, by omega⟩
  · have h2 := of_decide_eq_false h2
    rw [orI_all (fun j h => hj j (by omega))] at k
    refine WP.exit ?_
    refine WP.seq ?_
    refine WP.region ?_
    refine RG.pv rfl (PV.mvI (.inl rfl) rfl) ?_
    refine RG.pv rfl (PV.mvI (.inr rfl) rfl) ?_
    refine RG.nil ?_
    refine WP.ret ?_
    exact ⟨_, _, ResV.one rfl rfl, Cv.p, k⟩
theorem isNaN_s {a : Int} (k : R (.bool false) G L) : CallT Tryz.prog 257 #[vi a] G L R := by
  have e : (!decide (a = a)) = false := by simp
  refine CallT.enter (args := _) Tryz.func257 rfl rfl (by kernel_rfl) rfl ?_
  refine WP.seq ?_
  refine WP.region ?_
  refine RG.pv rfl (PV.mvB (.inr rfl) rfl) ?_
  refine RG.nil ?_
  refine WP.seq ?_
  refine WP.region ?_
  refine RG.pv rfl (PV.mvI (.inl rfl) rfl) ?_
  refine RG.pv rfl (PV.mvI (.inl rfl) rfl) ?_
  refine RG.pv rfl (PV.neq rfl rfl rfl) ?_
  refine RG.pv rfl (PV.mvB (.inr rfl) rfl) ?_
  refine RG.nil ?_
  refine WP.ret ?_
  exact ⟨_, _, ResV.one rfl rfl, Cv.p, (by rw [e]; exact k)⟩
theorem cmp_s {a b : Int} (k : R (vi (cmpI a b)) G L) : CallT Tryz.prog 238 #[vi a, vi b] G L R := by
  refine CallT.enter (args := _) Tryz.func238 rfl rfl (by kernel_rfl) rfl ?_
  refine WP.seq ?_
  refine WP.region ?_
  refine RG.pv rfl (PV.mvI (.inr rfl) rfl) ?_
  refine RG.nil ?_
  refine WP.seq ?_
  refine WP.region ?_
  refine RG.pv rfl (PV.mvI (.inl rfl) rfl) ?_
  refine RG.callF (vs := [_]) rfl rfl En257 rfl (isNaN_s ?_)
  refine RG.pv rfl (PV.mvB (.inr rfl) rfl) ?_
  refine RG.nil ?_
  refine WP.seq ?_
  refine WP.region ?_
  refine RG.pv rfl (PV.mvI (.inl rfl) rfl) ?_
  refine RG.callF (vs := [_]) rfl rfl En257 rfl (isNaN_s ?_)
  refine RG.pv rfl (PV.mvB (.inr rfl) rfl) ?_
  refine RG.nil ?_
  refine WP.seq ?_
  refine WP.seq ?_
  refine WP.region ?_
  refine RG.pv rfl (PV.mvB (.inl rfl) rfl) ?_
  refine RG.nil ?_
  refine WP.cond rfl (fun h => ?_) (fun h => ?_)
  · cases h
  · refine WP.skip ?_
    refine WP.seq ?_
    refine WP.seq ?_
    refine WP.region ?_
    refine RG.pv rfl (PV.mvB (.inl rfl) rfl) ?_
    refine RG.nil ?_
    refine WP.cond rfl (fun h => ?_) (fun h => ?_)
    · cases h
    · refine WP.skip ?_
      refine WP.seq ?_
      refine WP.seq ?_
      refine WP.region ?_
      refine RG.pv rfl (PV.mvI (.inl rfl) rfl) ?_
      refine RG.pv rfl (PV.mvI (.inl rfl) rfl) ?_
      refine RG.pv rfl (PV.lss rfl rfl rfl) ?_
      refine RG.nil ?_
      refine WP.cond rfl (fun h1 => ?_) (fun h1 => ?_)
      · rw [cmpI, if_pos (of_decide_eq_true h1)] at k
        refine WP.seq ?_
        refine WP.region ?_
        refine RG.pv rfl (PV.mvI (.inr rfl) rfl) ?_
        refine RG.nil ?_
        refine WP.ret ?_
        exact ⟨_, _, ResV.one rfl rfl, Cv.p, k⟩
      · have h1 := of_decide_eq_false h1
        refine WP.skip ?_
        refine WP.seq ?_
        refine WP.seq ?_
        refine WP.region ?_
        refine RG.pv rfl (PV.mvI (.inl rfl) rfl) ?_
        refine RG.pv rfl (PV.mvI (.inl rfl) rfl) ?_
        refine RG.pv rfl (PV.gtr rfl rfl rfl) ?_
        refine RG.nil ?_
        refine WP.cond rfl (fun h2 => ?_) (fun h2 => ?_)
        · rw [cmpI, if_neg h1, if_pos (of_decide_eq_true h2)] at k
          refine WP.seq ?_
          refine WP.region ?_
          refine RG.pv rfl (PV.mvI (.inr rfl) rfl) ?_
          refine RG.nil ?_
          refine WP.ret ?_
          exact ⟨_, _, ResV.one rfl rfl, Cv.p, k⟩
        · rw [cmpI, if_neg h1, if_neg (of_decide_eq_false h2)] at k
          refine WP.skip ?_
          refine WP.seq ?_
          refine WP.region ?_
          refine RG.pv rfl (PV.mvI (.inr rfl) rfl) ?_
          refine RG.nil ?_
          refine WP.ret ?_
          exact ⟨_, _, ResV.one rfl rfl, Cv.p, k⟩
theorem compareRects_s {a b : Rect} (k : R (vi (cmpR a b)) G L) : CallT Tryz.prog 205 #[.agg #[vi a.x0, vi a.y0, vi a.x1, vi a.y1], .agg #[vi b.x0, vi b.y0, vi b.x1, vi b.y1]] G L R := by
  refine CallT.enter (args := _) Tryz.func205 rfl rfl (by kernel_rfl) rfl ?_
  refine WP.seq ?_
  refine WP.region ?_
  refine RG.ot rfl (OT.box rfl rfl rfl fun b2 => ?_)
  refine RG.ot rfl (OT.box rfl rfl rfl fun b3 => ?_)
  refine RG.pv rfl (PV.mvI (.inr rfl) rfl) ?_
  refine RG.nil ?_
  refine WP.seq ?_
  refine WP.regionH0 (.q 0 (.q 1 (.q 2 (.q 3 (.q 5 (.q 6 (.q 7 (.q 8 (.q 10 (.q 11 (.q 12 (.q 13 (.q 15 (.q 16 (.q 17 (.q 18 (.l 4 (.l 9 (.l 14 (.l 19 (.l 20 (.l 21 (.q 22 Sch.nil))))))))))))))))))))))) (by kernel_rfl) (by kernel_rfl) (by kernel_rfl) rfl ?_
  refine RH.pv rfl (fun _ _ _ _ h => h) (Gh.le_refl _) PickC.pick rfl (PV.field rfl Fo101_1 rfl) ?_
  refine RH.pv rfl (fun _ _ _ _ h => h) (Gh.le_refl _) PickC.pick rfl (PV.load1 rfl Sc2 rfl (Rd.blk rfl)) ?_
  refine RH.pv rfl (fun _ _ _ _ h => h) (Gh.le_refl _) PickC.pick rfl (PV.field rfl Fo101_1 rfl) ?_
  refine RH.pv rfl (fun _ _ _ _ h => h) (Gh.le_refl _) PickC.pick rfl (PV.load1 rfl Sc2 rfl (Rd.blk rfl)) ?_
  refine RH.pv rfl (fun _ _ _ _ h => h) (Gh.le_refl _) PickC.pick rfl (PV.field rfl Fo101_0 rfl) ?_
  refine RH.pv rfl (fun _ _ _ _ h => h) (Gh.le_refl _) PickC.pick rfl (PV.load1 rfl Sc2 rfl (Rd.blk rfl)) ?_
  refine RH.pv rfl (fun _ _ _ _ h => h) (Gh.le_refl _) PickC.pick rfl (PV.field rfl Fo101_0 rfl) ?_
  refine RH.pv rfl (fun _ _ _ _ h => h) (Gh.le_refl _) PickC.pick rfl (PV.load1 rfl Sc2 rfl (Rd.blk rfl)) ?_
  refine RH.pv rfl (fun _ _ _ _ h => h) (Gh.le_refl _) PickC.pick rfl (PV.field rfl Fo101_3 rfl) ?_
  refine RH.pv rfl (fun _ _ _ _ h => h) (Gh.le_refl _) PickC.pick rfl (PV.load1 rfl Sc2 rfl (Rd.blk rfl)) ?_
  refine RH.pv rfl (fun _ _ _ _ h => h) (Gh.le_refl _) PickC.pick rfl (PV.field rfl Fo101_3 rfl) ?_
  refine RH.pv rfl (fun _ _ _ _ h => h) (Gh.le_refl _) PickC.pick rfl (PV.load1 rfl Sc2 rfl (Rd.blk rfl)) ?_
  refine RH.pv rfl (fun _ _ _ _ h => h) (Gh.le_refl _) PickC.pick rfl (PV.field rfl Fo101_2 rfl) ?_
  refine RH.pv rfl (fun _ _ _ _ h => h) (Gh.le_refl _) PickC.pick rfl (PV.load1 rfl Sc2 rfl (Rd.blk rfl)) ?_
  refine RH.pv rfl (fun _ _ _ _ h => h) (Gh.le_refl _) PickC.pick rfl (PV.field rfl Fo101_2 rfl) ?_
  refine RH.pv rfl (fun _ _ _ _ h => h) (Gh.le_refl _) PickC.pick rfl (PV.load1 rfl Sc2 rfl (Rd.blk rfl)) ?_
  refine RH.ot rfl rfl (OT.callF (vs := [_, _]) rfl En238 rfl (cmp_s ⟨Gh.le_refl _, PickC.pick, ?_⟩))
  refine RH.ot rfl rfl (OT.callF (vs := [_, _]) rfl En238 rfl (cmp_s ⟨Gh.le_refl _, PickC.pick, ?_⟩))
  refine RH.ot rfl rfl (OT.callF (vs := [_, _]) rfl En238 rfl (cmp_s ⟨Gh.le_refl _, PickC.pick, ?_⟩))
  refine RH.ot rfl rfl (OT.callF (vs := [_, _]) rfl En238 rfl (cmp_s ⟨Gh.le_refl _, PickC.pick, ?_⟩))
  refine RH.ot rfl rfl (OT.bslice (F := intT) (els := [_, _, _, _]) rfl El237 rfl (by decide) rfl (by decide) ⟨rfl, (Cl.c rfl), ⟨rfl, (Cl.c rfl), ⟨rfl, (Cl.c rfl), ⟨rfl, (Cl.c rfl), trivial⟩⟩⟩⟩ fun v25 => ⟨Gh.le_refl _, PickC.pick, ?_⟩)
  refine RH.ot rfl rfl (OT.callF (vs := [v25]) rfl En237 rfl (cmpOr_s Rs.o ⟨Gh.le_refl _, PickC.pick, ?_⟩))
  refine RH.pv rfl (fun _ _ _ _ h => h) (Gh.le_refl _) PickC.pick rfl (PV.mvI (.inr rfl) rfl) ?_
  refine RH.nil ?_
  refine WP.ret ?_
  exact ⟨_, _, ResV.one rfl rfl, Cv.p, k⟩
theorem partsCmp_s {v u : Value} {xs ys : List Rect} (h1 : Rs G L rectT v xs) (h2 : Rs G L rectT u ys) (hx : 0 < xs.length) (hy : 0 < ys.length) (k : R (vi (cmpR (gd xs 0) (gd ys 0))) G L) : CallT Tryz.prog 249 #[v, u] G L R := by
  refine CallT.enter (args := _) Tryz.func249 rfl rfl (by kernel_rfl) rfl ?_
  refine WP.seq ?_
  refine WP.region ?_
  refine RG.pv rfl (PV.mvI (.inr rfl) rfl) ?_
  refine RG.nil ?_
  refine WP.seq ?_
  refine WP.regionQ (by kernel_rfl) (by kernel_rfl) ?_
  refine RQ.pv rfl (PV.move (v := v) rfl rfl) ?_
  refine RQ.pv rfl (PV.idxS (j := 0) (v := v) rfl Is35 rfl (SlF.r h1) rfl (by omega) (by omega)) ?_
  refine RQ.pv rfl (PV.loadE rfl Ag101 rfl rfl (El.r h1 (getG (by omega)))) ?_
  refine RQ.pv rfl (PV.move (v := u) rfl rfl) ?_
  refine RQ.pv rfl (PV.idxS (j := 0) (v := u) rfl Is35 rfl (SlF.r h2) rfl (by omega) (by omega)) ?_
  refine RQ.pv rfl (PV.loadE rfl Ag101 rfl rfl (El.r h2 (getG (by omega)))) ?_
  refine RQ.callF (vs := [_, _]) rfl rfl En205 rfl (compareRects_s ⟨rfl, rfl, rfl⟩) ?_
  refine RQ.pv rfl (PV.mvI (.inr rfl) rfl) ?_
  refine RQ.nil ?_
  refine WP.ret ?_
  exact ⟨_, _, ResV.one rfl rfl, Cv.p, k⟩
theorem parts_len {S : List Bool} {zs : List (Sl Rect)} (h : er zs = partsL S) : zs.length ≤ 6400 := by
  have := congrArg List.length h
  have h1 := firsts_len S 6400
  rw [er_len, partsL_len] at this; omega
theorem parts_at {S : List Bool} {zs : List (Sl Rect)} (h : er zs = partsL S) {i : Nat} (hi : i < zs.length) : i < (firsts S 6400).length ∧ (gd zs i).xs = canon (compB S (cel (gd (firsts S 6400) i))) := by
  have := congrArg List.length h
  rw [er_len, partsL_len] at this
  refine ⟨by omega, ?_⟩
  rw [← er_gd, h, partsL_gd (by omega)]
theorem parts_ne {S : List Bool} {zs : List (Sl Rect)} (h : er zs = partsL S) {i : Nat} (hi : i < zs.length) : 0 < (gd zs i).xs.length := by
  obtain ⟨h1, h2⟩ := parts_at h hi
  rw [h2]; exact (canon_first (firsts_first h1)).1
theorem parts_lt {S : List Bool} {zs : List (Sl Rect)} (h : er zs = partsL S) {i j : Nat} (hij : i < j) (hj : j < zs.length) : ¬ cmpR (gd (gd zs j).xs 0) (gd (gd zs i).xs 0) < 0 := by
  obtain ⟨h1, h2⟩ := parts_at h (i := i) (by omega)
  obtain ⟨h3, h4⟩ := parts_at h hj
  obtain ⟨_, a1, a2⟩ := canon_first (firsts_first h1)
  obtain ⟨_, a3, a4⟩ := canon_first (firsts_first h3)
  have h5 := firsts_lt hij h3
  rw [h2, h4, cmpR, a1, a2, a3, a4]
  simp only [orI, cmpI]
  split <;> split <;> (try split) <;> (try split) <;> (try split) <;> omega
theorem pi_zlen {S T : List Bool} {n : Nat} {zs : List (Sl Rect)} (h : PI canon S n T (er zs)) : zs.length ≤ n := by
  have := congrArg List.length h.er
  have h1 := firsts_len S n
  rw [er_len, List.length_map] at this; omega
theorem bv_len (bs : List Bool) : (bv bs).length = bs.length := by simp [bv]
theorem take6400 {S : List Bool} (h : S.length = 6400) : (S.drop 0).take 6400 = S := by rw [List.drop_zero, List.take_of_length_le (by omega)]
theorem allOne_bv (bs : List Bool) : allOne (bv bs) = true := by simp [allOne, bv, Value.oneCell']
theorem OT.storeGG {P : Program} {n : Nat} {σ : Nat → Value} {o : Oper} {K : (Nat → Value) → Gh → List Ch → Prop} {b : Nat} {t e : TypeId} {x y : Operand} {cs : List Value} {bs : List Bool} {L' : List Ch} (ho : o.op = .store t x y) (hS : ∀ w, (sizeOf t).run P w = .ok 6400 w) (hx : ev σ x = .pointer (some ⟨b, 0, none⟩)) (hy : ev σ y = .agg (bv bs).toArray) (hl : bs.length = 6400) [hX : ExB b L e cs L'] (hc : cs.length = 6400) (k : K (updo σ o.dst undef) G (blk b e (bv bs) :: L')) : OT P n o σ G L K :=
  OT.storeW ho hS hx hy (Cl.c (by simp [Value.cells])) (by simp [bv, hl]) hc (OneC.c (allOne_bv bs)) k
set_option maxHeartbeats 1000000 in
theorem parts_s {b : Nat} {S : List Bool} (hS : S.length = 6400) (k : ∀ v zs, er zs = partsL S → R v G (osl 35 slT v zs :: bagS 101 rectT zs :: grd b S :: L)) : CallT Tryz.prog 223 #[.pointer (some ⟨b, 0, none⟩), .bool false] G (grd b S :: L) R := by
  refine CallT.enter (args := _) Tryz.func223 rfl rfl (by kernel_rfl) rfl ?_
  refine WP.seq ?_
  refine WP.region ?_
  refine RG.pv rfl (PV.asg rfl rfl) ?_
  refine RG.nil ?_
  refine WP.cut2 [1] (fun (o : Value) (b6 : Nat) => True) (fun (o : Value) (b6 : Nat) => [(5, o), (6, .pointer (some ⟨b6, 0, none⟩))]) (fun (o : Value) (b6 : Nat) => grd b6 S :: osl 35 slT o ([] : List (Sl Rect)) :: grd b S :: L) ?_ ?_
  refine WP.regionH0 (.q 1 (.q 2 (.q 3 (.b 0 (.l 4 (.q 5 (.l 6 Sch.nil))) 4 (.l 0 (.q 5 (.l 6 Sch.nil))))))) (by kernel_rfl) (by kernel_rfl) (by kernel_rfl) rfl ?_
  refine RH.pv rfl (fun _ _ _ _ h => h) (Gh.le_refl _) PickC.pick rfl (PV.mvP (.inl rfl) rfl) ?_
  refine RH.pv rfl (fun _ _ _ _ h => h) (Gh.le_refl _) PickC.pick rfl (PV.nilc rfl rfl) ?_
  refine RH.pv rfl (fun _ _ _ _ h => h) (Gh.le_refl _) PickC.pick rfl (PV.loadRow rfl Ag174 rfl rfl (by omega)) ?_
  · refine RH.ot2 rfl rfl rfl rfl  (OT.bslice (F := (slT (α := Rect))) (els := []) rfl El50 rfl (by decide) rfl (by decide) trivial fun v12 => ⟨Gh.le_refl _, PickC.pick, ?_⟩) (OT.alloc rfl (zeroB_spec (n := 6400) (by kernel_rfl)) fun b6 => ⟨Gh.le_refl _, PickC.pick, ?_⟩)
    · refine RH.ot rfl rfl (OT.alloc rfl (zeroB_spec (n := 6400) (by kernel_rfl)) fun b6 => ⟨Gh.le_refl _, PickC.pick, ?_⟩)
      refine RH.pv rfl (fun _ _ _ _ h => h) (Gh.le_refl _) PickC.pick rfl (PV.asg (v := v12) rfl rfl) ?_
      refine RH.ot rfl rfl (OT.storeGG rfl Sz174 rfl rfl (by first | omega | (simp <;> omega)) (by first | assumption | rw [bv_len, List.length_replicate]) ⟨Gh.le_refl _, PickC.pick, ?_⟩)
      refine RH.nil ?_
      exact ⟨rfl, v12, b6, trivial, ⟨rfl, rfl, trivial⟩, ⟨rfl, trivial⟩, (Cv.p (C := grd b6 ((S.drop 0).take 6400) :: osl 35 slT v12 ([] : List (Sl Rect)) :: grd b S :: L)).trans (Cv.cast (by rw [take6400 hS]))⟩
    · refine RH.ot rfl rfl (OT.bslice (F := (slT (α := Rect))) (els := []) rfl El50 rfl (by decide) rfl (by decide) trivial fun v12 => ⟨Gh.le_refl _, PickC.pick, ?_⟩)
      refine RH.pv rfl (fun _ _ _ _ h => h) (Gh.le_refl _) PickC.pick rfl (PV.asg (v := v12) rfl rfl) ?_
      refine RH.ot rfl rfl (OT.storeGG rfl Sz174 rfl rfl (by first | omega | (simp <;> omega)) (by first | assumption | rw [bv_len, List.length_replicate]) ⟨Gh.le_refl _, PickC.pick, ?_⟩)
      refine RH.nil ?_
      exact ⟨rfl, v12, b6, trivial, ⟨rfl, rfl, trivial⟩, ⟨rfl, trivial⟩, (Cv.p (C := grd b6 ((S.drop 0).take 6400) :: osl 35 slT v12 ([] : List (Sl Rect)) :: grd b S :: L)).trans (Cv.cast (by rw [take6400 hS]))⟩
  · rintro o b6 τ _
    refine WP.seq ?_
    refine WP.seq ?_
    refine WP.region ?_
    refine RG.pv rfl (PV.mvI (.inl rfl) rfl) ?_
    refine RG.nil ?_
    refine WP.block ?_
    refine WP.cv ((Cv.p (C := osl 35 slT o ([] : List (Sl Rect)) :: grd b6 S :: grd b S :: L)).trans (Cv.cons (Cv.bag0 (e := 101) (F := rectT) (xs := []) rfl))) ?_
    refine WP.loop4 [1, 6] (fun (y : Nat) (T : List Bool) (zs : List (Sl Rect)) (q : Value) => y ≤ 80 ∧ PI canon S (y * 80) T (er zs)) (fun (y : Nat) (T : List Bool) (zs : List (Sl Rect)) (q : Value) => [(16, vi y), (5, q)]) (fun (y : Nat) (T : List Bool) (zs : List (Sl Rect)) (q : Value) => grd b6 T :: osl 35 slT q zs :: bagS 101 rectT zs :: grd b S :: L) (fun (y : Nat) (T : List Bool) (zs : List (Sl Rect)) (q : Value) => 80 - y) 0 S [] o ⟨by omega, PI.start hS⟩ ⟨rfl, rfl, trivial⟩ Cv.p ?_
    rintro y T zs q τ ⟨hy, hP⟩
    refine WP.seq ?_
    refine WP.region ?_
    refine RG.pv rfl (PV.lss rfl rfl rfl) ?_
    refine RG.nil ?_
    refine WP.seq ?_
    refine WP.cond rfl (fun h2 => ?_) (fun h2 => ?_)
    · have h2 := of_decide_eq_true h2
      refine WP.skip ?_
      refine WP.seq ?_
      refine WP.block ?_
      refine WP.seq ?_
      refine WP.region ?_
      refine RG.pv rfl (PV.mvI (.inl rfl) rfl) ?_
      refine RG.pv rfl (PV.mvI (.inr rfl) rfl) ?_
      refine RG.nil ?_
      refine WP.seq ?_
      refine WP.region ?_
      refine RG.pv rfl (PV.mvI (.inl rfl) rfl) ?_
      refine RG.nil ?_
      refine WP.block ?_
      refine WP.loop4 [1, 6, 7, 16] (fun (x : Nat) (T1 : List Bool) (zs1 : List (Sl Rect)) (q1 : Value) => x ≤ 80 ∧ PI canon S (y * 80 + x) T1 (er zs1)) (fun (x : Nat) (T1 : List Bool) (zs1 : List (Sl Rect)) (q1 : Value) => [(19, vi x), (5, q1)]) (fun (x : Nat) (T1 : List Bool) (zs1 : List (Sl Rect)) (q1 : Value) => grd b6 T1 :: osl 35 slT q1 zs1 :: bagS 101 rectT zs1 :: grd b S :: L) (fun (x : Nat) (T1 : List Bool) (zs1 : List (Sl Rect)) (q1 : Value) => 80 - x) 0 T zs q ⟨by omega, hP⟩ ⟨rfl, rfl, trivial⟩ Cv.p ?_
      rintro x T1 zs1 q1 τ1 ⟨hx, hP1⟩
      refine WP.seq ?_
      refine WP.region ?_
      refine RG.pv rfl (PV.lss rfl rfl rfl) ?_
      refine RG.nil ?_
      refine WP.seq ?_
      refine WP.cond rfl (fun h3 => ?_) (fun h3 => ?_)
      · have h3 := of_decide_eq_true h3
        have hl1 := hP1.len
        have hzl := pi_zlen hP1
        have e1 : (y * 80 + x) / 80 = y := by omega
        have e2 : (y * 80 + x) % 80 = x := by omega
        have e3 : cel (y * 80 + x) = (y, x) := by rw [cel, e1, e2]
        refine WP.skip ?_
        refine WP.seq ?_
        refine WP.block ?_
        refine WP.seq ?_
        refine WP.region ?_
        refine RG.pv rfl (PV.mvI (.inl rfl) rfl) ?_
        refine RG.pv rfl (PV.mvI (.inr rfl) rfl) ?_
        refine RG.nil ?_
        refine WP.seq ?_
        refine WP.seq ?_
        refine WP.region ?_
        refine RG.pv rfl (PV.mvI (.inl rfl) rfl) ?_
        refine RG.pv rfl (PV.mvI (.inl rfl) rfl) ?_
        refine RG.pv rfl (PV.idxA (j := y) rfl Ia174 rfl rfl (by omega) (by omega)) ?_
        refine RG.pv rfl (PV.idxA (j := x) rfl Ia172 rfl rfl (by omega) (by omega)) ?_
        refine RG.pv rfl (PV.loadGr rfl Sc4 rfl rfl (by omega)) ?_
        refine RG.pv rfl (PV.not rfl rfl) ?_
        refine RG.nil ?_
        refine WP.cond rfl (fun h4 => ?_) (fun h4 => ?_)
        · have h5 : gb T1 y x = false := by rw [← gd_gb]; simpa using h4
          refine WP.exit ?_
          refine WP.region ?_
          refine RG.pv rfl (PV.add rfl rfl rfl (by omega)) ?_
          refine RG.pv rfl (PV.mvI (.inl rfl) rfl) ?_
          refine RG.nil ?_
          exact ⟨rfl, x + 1, T1, zs1, q1, ⟨by omega, hP1.skip (by omega) (by rw [e1, e2]; exact h5)⟩, ⟨rfl, rfl, trivial⟩, ⟨rfl, rfl, rfl, rfl, trivial⟩, Cv.p, by omega⟩
        · have h5 : gb T1 y x = true := by rw [← gd_gb]; simpa using h4
          refine WP.skip ?_
          refine WP.seq ?_
          refine WP.region ?_
          refine RG.pv rfl (PV.mvI (.inl rfl) rfl) ?_
          refine RG.pv rfl (PV.mvI (.inl rfl) rfl) ?_
          refine RG.pv rfl (PV.mvB (.inl rfl) rfl) ?_
          refine RG.callF (vs := [_, _, _, _]) rfl rfl En247 rfl (CallT.exB (flood_s (x := (x : Int)) (y := (y : Int)) hl1 (by omega) (by omega) (by rw [Int.toNat_natCast, Int.toNat_natCast]; exact h5) (fun b9 => ?_)))
          refine RG.pv rfl (PV.asg rfl rfl) ?_
          refine RG.nil ?_
          refine WP.seq ?_
          refine WP.seq ?_
          refine WP.region ?_
          refine RG.pv rfl (PV.mvI (.inl rfl) rfl) ?_
          refine RG.nil ?_
          refine WP.block ?_
          refine WP.cv ((Cv.p (C := grd b9 (compB T1 ((y : Int).toNat, (x : Int).toNat)) :: grd b6 T1 :: osl 35 slT q1 zs1 :: bagS 101 rectT zs1 :: grd b S :: L)).trans (Cv.cast (by rw [Int.toNat_natCast, Int.toNat_natCast, ← e3]))) ?_
          have hlc := compB_len T1 (cel (y * 80 + x))
          refine WP.loop2 [1, 5, 6, 7, 9, 16, 19] (fun (v : Nat) (U : List Bool) => v ≤ 80 ∧ Sub T1 (compB T1 (cel (y * 80 + x))) (v * 80) U) (fun (v : Nat) (U : List Bool) => [(32, vi v)]) (fun (v : Nat) (U : List Bool) => grd b9 (compB T1 (cel (y * 80 + x))) :: grd b6 U :: osl 35 slT q1 zs1 :: bagS 101 rectT zs1 :: grd b S :: L) (fun (v : Nat) (U : List Bool) => 80 - v) 0 T1 ⟨by omega, Sub.start hl1⟩ ⟨rfl, trivial⟩ Cv.p ?_
          rintro v U τ2 ⟨hv, hU⟩
          refine WP.seq ?_
          refine WP.region ?_
          refine RG.pv rfl (PV.lss rfl rfl rfl) ?_
          refine RG.nil ?_
          refine WP.seq ?_
          refine WP.cond rfl (fun h6 => ?_) (fun h6 => ?_)
          · have h6 := of_decide_eq_true h6
            refine WP.skip ?_
            refine WP.seq ?_
            refine WP.block ?_
            refine WP.seq ?_
            refine WP.region ?_
            refine RG.pv rfl (PV.mvI (.inl rfl) rfl) ?_
            refine RG.pv rfl (PV.mvI (.inr rfl) rfl) ?_
            refine RG.nil ?_
            refine WP.seq ?_
            refine WP.region ?_
            refine RG.pv rfl (PV.mvI (.inl rfl) rfl) ?_
            refine RG.nil ?_
            refine WP.block ?_
            refine WP.loop2 [1, 5, 6, 7, 9, 10, 16, 19, 32] (fun (u : Nat) (V : List Bool) => u ≤ 80 ∧ Sub T1 (compB T1 (cel (y * 80 + x))) (v * 80 + u) V) (fun (u : Nat) (V : List Bool) => [(35, vi u)]) (fun (u : Nat) (V : List Bool) => grd b9 (compB T1 (cel (y * 80 + x))) :: grd b6 V :: osl 35 slT q1 zs1 :: bagS 101 rectT zs1 :: grd b S :: L) (fun (u : Nat) (V : List Bool) => 80 - u) 0 U ⟨by omega, hU⟩ ⟨rfl, trivial⟩ Cv.p ?_
            rintro u V τ3 ⟨hu, hV⟩
            refine WP.seq ?_
            refine WP.region ?_
            refine RG.pv rfl (PV.lss rfl rfl rfl) ?_
            refine RG.nil ?_
            refine WP.seq ?_
            refine WP.cond rfl (fun h7 => ?_) (fun h7 => ?_)
            · have h7 := of_decide_eq_true h7
              have hVl := hV.1
              refine WP.skip ?_
              refine WP.seq ?_
              refine WP.block ?_
              refine WP.seq ?_
              refine WP.region ?_
              refine RG.pv rfl (PV.mvI (.inl rfl) rfl) ?_
              refine RG.pv rfl (PV.mvI (.inr rfl) rfl) ?_
              refine RG.nil ?_
              refine WP.regionHD [.b b6] (.q 0 (.q 1 (.q 2 (.q 3 (.q 4 (.q 5 (.q 17 (.l 6 (.q 7 (.q 8 (.q 9 (.q 10 (.q 11 (.q 12 (.q 13 (.q 14 (.q 15 (.q 16 (.q 18 (.l 19 Sch.nil)))))))))))))))))))) (by kernel_rfl) (by kernel_rfl) (by kernel_rfl) rfl ?_
              refine RH.pv rfl (fun _ _ _ _ h => h) (Gh.le_refl _) PickC.pick rfl (PV.mvI (.inl rfl) rfl) ?_
              refine RH.pv rfl (fun _ _ _ _ h => h) (Gh.le_refl _) PickC.pick rfl (PV.mvI (.inl rfl) rfl) ?_
              refine RH.pv rfl (fun _ _ _ _ h => h) (Gh.le_refl _) PickC.pick rfl (PV.mvI (.inl rfl) rfl) ?_
              refine RH.pv rfl (fun _ _ _ _ h => h) (Gh.le_refl _) PickC.pick rfl (PV.mvI (.inl rfl) rfl) ?_
              refine RH.pv rfl (fun _ _ _ _ h => h) (Gh.le_refl _) PickC.pick rfl (PV.idxA (j := v) rfl Ia174 rfl rfl (by omega) (by omega)) ?_
              refine RH.pv rfl (fun _ _ _ _ h => h) (Gh.le_refl _) PickC.pick rfl (PV.idxA (j := u) rfl Ia172 rfl rfl (by omega) (by omega)) ?_
              refine RH.pv rfl (fun _ _ _ _ h => h) (Gh.le_refl _) PickC.pick rfl (PV.idxA (j := v) rfl Ia174 rfl rfl (by omega) (by omega)) ?_
              refine RH.ot rfl rfl (OT.pv (PV.loadGr rfl Sc4 rfl rfl (by omega)) ⟨Gh.le_refl _, PickC.pick, ?_⟩)
              refine RH.pv rfl (fun _ _ _ _ h => h) (Gh.le_refl _) PickC.pick rfl (PV.mvB (.inl rfl) rfl) ?_
              refine RH.gs rfl (fun _ _ _ _ h => h) (Gh.le_refl _) PickC.pick rfl rfl rfl (fun hp => (PV.mvP (.inl rfl) rfl)) ?_
              refine RH.gs rfl (fun _ _ _ _ h => h) (Gh.le_refl _) PickC.pick rfl rfl rfl (fun hp => (PV.mvI (.inl rfl) rfl)) ?_
              refine RH.gs rfl (fun _ _ _ _ h => h) (Gh.le_refl _) PickC.pick rfl rfl rfl (fun hp => (PV.mvI (.inl rfl) rfl)) ?_
              refine RH.gs rfl (fun _ _ _ _ h => h) (Gh.le_refl _) PickC.pick rfl rfl rfl (fun hp => (PV.nilc rfl (gs_t hp))) ?_
              refine RH.gs rfl (fun _ _ _ _ h => h) (Gh.le_refl _) PickC.pick rfl rfl rfl (fun hp => (PV.idxA (j := v) rfl Ia174 (gs_t hp) (gs_t hp) (by first | omega | (simp at hp; omega)) (by first | omega | (simp at hp; omega)))) ?_
              refine RH.gs rfl (fun _ _ _ _ h => h) (Gh.le_refl _) PickC.pick rfl rfl rfl (fun hp => (PV.idxA (j := u) rfl Ia172 (gs_t hp) (gs_t hp) (by first | omega | (simp at hp; omega)) (by first | omega | (simp at hp; omega)))) ?_
              refine RH.gs rfl (fun _ _ _ _ h => h) (Gh.le_refl _) PickC.pick rfl rfl rfl (fun hp => (PV.loadGr rfl Sc4 (gs_t hp) rfl (by first | omega | (simp at hp; omega)))) ?_
              refine RH.gs rfl (fun _ _ _ _ h => h) (Gh.le_refl _) PickC.pick rfl rfl rfl (fun hp => (PV.not rfl (gs_t hp))) ?_
              refine RH.pv rfl (fun _ _ _ _ h => h) (Gh.le_refl _) PickC.pick rfl (PV.pickA rfl rfl (fun hq => gs_t (geqT hq)) rfl) ?_
              refine RH.pv rfl (fun _ _ _ _ h => h) (Gh.le_refl _) PickC.pick rfl (PV.idxA (j := u) rfl Ia172 rfl rfl (by omega) (by omega)) ?_
              refine RH.ot rfl rfl (OT.storeGr rfl Sz4 rfl rfl rfl (by first | omega | (simp; omega)) ⟨Gh.le_refl _, PickC.pick, ?_⟩)
              refine RH.nil ?_
              refine WP.region ?_
              refine RG.pv rfl (PV.add rfl rfl rfl (by omega)) ?_
              refine RG.pv rfl (PV.mvI (.inl rfl) rfl) ?_
              refine RG.nil ?_
              exact ⟨rfl, u + 1, (V.set (0 + v * 80 + u * 1) (gd V (0 + v * 80 + u * 1) && !gd (compB T1 (cel (y * 80 + x))) (0 + v * 80 + u * 1))), ⟨by omega, hV.step (by omega) (by omega) (by omega)⟩, ⟨rfl, trivial⟩, ⟨rfl, rfl, rfl, rfl, rfl, rfl, rfl, rfl, rfl, trivial⟩, Cv.p, by omega⟩
            · have h7 := of_decide_eq_false h7
              obtain rfl : u = 80 := by omega
              refine WP.exit ?_
              refine WP.region ?_
              refine RG.pv rfl (PV.add rfl rfl rfl (by omega)) ?_
              refine RG.pv rfl (PV.mvI (.inl rfl) rfl) ?_
              refine RG.nil ?_
              exact ⟨rfl, v + 1, V, ⟨by omega, by rw [Nat.add_mul]; exact hV⟩, ⟨rfl, trivial⟩, ⟨rfl, rfl, rfl, rfl, rfl, rfl, rfl, trivial⟩, Cv.p, by omega⟩
          · have h6 := of_decide_eq_false h6
            obtain rfl : v = 80 := by omega
            refine WP.exit ?_
            refine WP.region ?_
            refine RG.pv rfl (PV.move (v := q1) rfl rfl) ?_
            refine RG.pv rfl (PV.mvP (.inl rfl) rfl) ?_
            refine RG.callF (vs := [_]) rfl rfl En139 rfl (region_s hlc (fun v61 => ?_))
            refine RG.ot rfl (OT.bslice (F := (slT (α := Rect))) (els := [⟨v61, canon (compB T1 (cel (y * 80 + x)))⟩]) rfl El50 rfl (by decide) rfl (by decide) ⟨rfl, (Cl.s (v := v61) SlF.o), trivial⟩ fun v62 => ?_)
            refine RG.ot rfl (OT.append (v := q1) (u := v62) (F := (slT (α := Rect))) rfl El50 rfl (by decide) rfl rfl Rs.o (OneL.one (OneC.sl SlF.o OneC.nil)) rfl (by first | omega | (simp <;> omega)) fun v63 => ?_)
            refine RG.pv rfl (PV.asg (v := v63) rfl rfl) ?_
            refine RG.nil ?_
            refine WP.region ?_
            refine RG.pv rfl (PV.add rfl rfl rfl (by omega)) ?_
            refine RG.pv rfl (PV.mvI (.inl rfl) rfl) ?_
            refine RG.nil ?_
            refine ⟨rfl, x + 1, U, (zs1 ++ [⟨v61, canon (compB T1 (cel (y * 80 + x)))⟩]), v63, ⟨by omega, ?_⟩, ⟨rfl, rfl, trivial⟩, ⟨rfl, rfl, rfl, rfl, trivial⟩, ((Cv.p (C := osl 101 rectT v61 (canon (compB T1 (cel (y * 80 + x)))) :: bagS 101 rectT zs1 :: grd b6 U :: osl 35 slT v63 (zs1 ++ [⟨v61, canon (compB T1 (cel (y * 80 + x)))⟩]) :: grd b S :: L)).trans (Cv.bagS_add.trans Cv.p)), by omega⟩
            rw [er, List.map_append]
            exact hP1.take (by omega) (by rw [e1, e2]; exact h5) hU.1 hU.final
      · have h3 := of_decide_eq_false h3
        obtain rfl : x = 80 := by omega
        refine WP.exit ?_
        refine WP.region ?_
        refine RG.pv rfl (PV.add rfl rfl rfl (by omega)) ?_
        refine RG.pv rfl (PV.mvI (.inl rfl) rfl) ?_
        refine RG.nil ?_
        exact ⟨rfl, y + 1, T1, zs1, q1, ⟨by omega, by rw [Nat.add_mul]; exact hP1⟩, ⟨rfl, rfl, trivial⟩, ⟨rfl, rfl, trivial⟩, Cv.p, by omega⟩
    · have h2 := of_decide_eq_false h2
      obtain rfl : y = 80 := by omega
      have hz := hP.final
      refine WP.exit ?_
      refine WP.seq ?_
      refine WP.region ?_
      refine RG.pv rfl (PV.move (v := q) rfl rfl) ?_
      refine RG.callF (vs := [q, _]) rfl rfl En248 rfl (sorted_rss (cf := fun i j => cmpR (gd (gd zs i).xs 0) (gd (gd zs j).xs 0)) (parts_len hz) Rs.o (fun i j hi hj => CB.mk0 En249 fun L' R c k => partsCmp_s (Rs.cv c (RsE.o i hi)) (Rs.cv c (RsE.o j hj)) (parts_ne hz hi) (parts_ne hz hj) k) (fun i j hij hj => parts_lt hz hij hj) ?_)
      refine RG.nil ?_
      refine WP.seq ?_
      refine WP.region ?_
      refine RG.pv rfl (PV.move (v := q) rfl rfl) ?_
      refine RG.pv rfl (PV.asg (v := q) rfl rfl) ?_
      refine RG.nil ?_
      refine WP.ret ?_
      exact ⟨_, _, ResV.one rfl rfl, Cv.p, k q zs hz⟩
end Go.Proofs.YtgngpegmaceaiaaGreat
