/-
  Contracts: changed areas of layouts; the law ChangedArea.
-/
import Derived.Test.YthjaopefoiploaaGreatW8
namespace Go.Proofs.YthjaopefoiploaaGreat
open Go
set_option maxRecDepth 20000
set_option linter.unusedSimpArgs false
variable {G : Gh} {L : List Ch} {R : Value → Gh → List Ch → Prop}

/-! ## plain -/
def opF (op : Int) (p q : Bool) : Bool := decide (op / ((if q then 2 else 1) * ((if p then 4 else 1) * 1)) % 2 = 1)
theorem opF_or : opF 14 = fun p q => p || q := by funext p q; cases p <;> cases q <;> rfl
theorem opF_xor : opF 6 = fun p q => p != q := by funext p q; cases p <;> cases q <;> rfl
theorem opF_and : opF 8 = fun p q => p && q := by funext p q; cases p <;> cases q <;> rfl
theorem opF_minus : opF 4 = fun p q => p && !q := by funext p q; cases p <;> cases q <;> rfl
abbrev orB (a b : List Bool) : List Bool := zipB (fun p q => p || q) a b
def chgB (l m : List (List Rect)) (k : Nat) : List Bool := zipB (fun p q => p != q) (bits (gd l k)) (bits (gd m k))
theorem chgB_len (l m : List (List Rect)) (k : Nat) : (chgB l m k).length = 6400 := zipB_len (bits_length _) (bits_length _)
def orL (l m : List (List Rect)) (ks : List Nat) : List Bool := ks.foldl (fun b k => orB b (chgB l m k)) (bits [])
theorem orL_len (l m : List (List Rect)) (ks : List Nat) : (orL l m ks).length = 6400 := by
  have : ∀ (ks : List Nat) (b : List Bool), b.length = 6400 → (ks.foldl (fun b k => orB b (chgB l m k)) b).length = 6400 := by
    intro ks
    induction ks with
    | nil => exact fun b h => h
    | cons k ks ih => exact fun b h => ih _ (zipB_len h (chgB_len l m k))
  exact this ks _ (bits_length _)
theorem gb_zip {f : Bool → Bool → Bool} {a b : List Bool} (h : a.length = 6400) (h' : b.length = 6400) {y x : Nat} (hy : y < 80) (hx : x < 80) : gb (zipB f a b) y x = f (gb a y x) (gb b y x) := zipB_gd (by omega) (by omega)
theorem gb_bits (rs : List Rect) {y x : Nat} (hy : y < 80) (hx : x < 80) : gb (bits rs) y x = rs.any fun r => inR r y x := by
  have h : y * 80 + x < 6400 := by omega
  have e1 : (y * 80 + x) / 80 = y := by omega
  have e2 : (y * 80 + x) % 80 = x := by omega
  rw [gb, gd_eq (by rw [bits_length]; exact h)]
  simp [bits, e1, e2]
theorem gb_orL (l m : List (List Rect)) (ks : List Nat) {y x : Nat} (hy : y < 80) (hx : x < 80) : gb (orL l m ks) y x = ks.any fun k => gb (chgB l m k) y x := by
  have : ∀ (ks : List Nat) (b : List Bool), b.length = 6400 → gb (ks.foldl (fun b k => orB b (chgB l m k)) b) y x = (gb b y x || ks.any fun k => gb (chgB l m k) y x) := by
    intro ks
    induction ks with
    | nil => intro b _; simp
    | cons k ks ih =>
      intro b h
      rw [List.foldl_cons, ih _ (zipB_len h (chgB_len l m k)), gb_zip h (chgB_len l m k) hy hx, List.any_cons, Bool.or_assoc]
  rw [orL, this ks _ (bits_length _), gb_bits [] hy hx]; simp
theorem canon_any {bs : List Bool} {y x : Nat} (hy : y < 80) (hx : x < 80) : ((canon bs).any fun r => inR r y x) = gb bs y x := by
  rw [canon, canonFrom_any bs 0 y x hy hx]; simp
theorem bits_orL (l m : List (List Rect)) (ks : List Nat) : bits ((ks.map fun k => canon (chgB l m k)).flatten) = orL l m ks := by
  refine (bits_eq (orL_len l m ks) fun y x hy hx => ?_).symm
  rw [gb_orL l m ks hy hx, List.any_flatten, List.any_map]
  congr 1; funext k; exact (canon_any hy hx).symm
theorem orL_snoc (l m : List (List Rect)) (ks : List Nat) (k : Nat) : orL l m (ks ++ [k]) = orB (orL l m ks) (chgB l m k) := by simp [orL, List.foldl_append]

/-! ## walks -/
def chgR (l m : List (List Rect)) : List Rect := bif isLay l && isLay m then canon (orL l m [0, 1, 2, 3, 4, 5, 6, 7]) else []
def chgE (l m : List (List Rect)) : Int := bif isLay l && isLay m then 0 else 1
theorem chgR_len (l m : List (List Rect)) : (chgR l m).length ≤ 3200 := by
  unfold chgR; cases isLay l && isLay m
  · simp
  · exact canon_len _
theorem RsN {α : Type} {F : FT α} : Rs G L F (.slice none 0 0) [] := fun w hs => ⟨⟨0, Nat.le_refl _, Nat.zero_le _, .inr ⟨⟨none, rfl⟩, rfl⟩⟩, fun j c h => by simp [FT.flat] at h⟩
theorem range_snoc (k : Nat) : List.range (k + 1) = List.range k ++ [k] := List.range_succ
/-! ## the law -/
end Go.Proofs.YthjaopefoiploaaGreat
