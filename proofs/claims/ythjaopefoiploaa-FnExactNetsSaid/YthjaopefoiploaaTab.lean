/-
  Closed facts on the types and the functions of this translation, each reckoned by the kernel. Made by a program of mine (gentab.py).
-/
import Derived.Test.YthjaopefoiploaaMem2
import Derived.Test.YthjaopefoiploaaChecked
namespace Go.Proofs.Ythjaopefoiploaa
open Go
theorem Sz1 : ∀ w, (sizeOf 1).run Try.prog w = .ok 1 w := fun w => by kernel_rfl
theorem Sc1 : Scal Try.prog 1 := fun w => ⟨by kernel_rfl, Sz1 w⟩
theorem Zr1 : ZeroT Try.prog 1 [.nilFunc] := ⟨.nilFunc, fun w => by kernel_rfl, rfl⟩
theorem Sz2 : ∀ w, (sizeOf 2).run Try.prog w = .ok 1 w := fun w => by kernel_rfl
theorem Sc2 : Scal Try.prog 2 := fun w => ⟨by kernel_rfl, Sz2 w⟩
theorem Zr2 : ZeroT Try.prog 2 [.int .i64 0] := ⟨.int .i64 0, fun w => by kernel_rfl, rfl⟩
theorem Sz3 : ∀ w, (sizeOf 3).run Try.prog w = .ok 1 w := fun w => by kernel_rfl
theorem Sc3 : Scal Try.prog 3 := fun w => ⟨by kernel_rfl, Sz3 w⟩
theorem Zr3 : ZeroT Try.prog 3 [.int .i64 0] := ⟨.int .i64 0, fun w => by kernel_rfl, rfl⟩
theorem Sz4 : ∀ w, (sizeOf 4).run Try.prog w = .ok 1 w := fun w => by kernel_rfl
theorem Sc4 : Scal Try.prog 4 := fun w => ⟨by kernel_rfl, Sz4 w⟩
theorem Zr4 : ZeroT Try.prog 4 [.bool false] := ⟨.bool false, fun w => by kernel_rfl, rfl⟩
theorem Sz5 : ∀ w, (sizeOf 5).run Try.prog w = .ok 1 w := fun w => by kernel_rfl
theorem Sc5 : Scal Try.prog 5 := fun w => ⟨by kernel_rfl, Sz5 w⟩
theorem Zr5 : ZeroT Try.prog 5 [.int .u8 0] := ⟨.int .u8 0, fun w => by kernel_rfl, rfl⟩
theorem Sz6 : ∀ w, (sizeOf 6).run Try.prog w = .ok 1 w := fun w => by kernel_rfl
theorem Sc6 : Scal Try.prog 6 := fun w => ⟨by kernel_rfl, Sz6 w⟩
theorem Zr6 : ZeroT Try.prog 6 [.int .u8 0] := ⟨.int .u8 0, fun w => by kernel_rfl, rfl⟩
theorem Sz7 : ∀ w, (sizeOf 7).run Try.prog w = .ok 4 w := fun w => by kernel_rfl
theorem Ag7 : Aggr Try.prog 7 4 := fun w => ⟨by kernel_rfl, Sz7 w⟩
theorem Fo7_0 : FOff Try.prog 7 0 0 := ⟨0, by kernel_rfl⟩
theorem Fo7_1 : FOff Try.prog 7 1 1 := ⟨0, by kernel_rfl⟩
theorem Fo7_2 : FOff Try.prog 7 2 2 := ⟨0, by kernel_rfl⟩
theorem Fo7_3 : FOff Try.prog 7 3 3 := ⟨0, by kernel_rfl⟩
theorem Pl7 : Places Try.prog 7 [(0, 1), (1, 1), (2, 1), (3, 1)] := ⟨_, Try.underlying7, fun w => by kernel_rfl⟩
theorem Zr7 : ZeroT Try.prog 7 [.int .i64 0, .int .i64 0, .bool false, .int .u8 0] := ⟨.agg #[.int .i64 0, .int .i64 0, .bool false, .int .u8 0], fun w => by kernel_rfl, rfl⟩
theorem Sz8 : ∀ w, (sizeOf 8).run Try.prog w = .ok 4 w := fun w => by kernel_rfl
theorem Ag8 : Aggr Try.prog 8 4 := fun w => ⟨by kernel_rfl, Sz8 w⟩
theorem Fo8_0 : FOff Try.prog 8 0 0 := ⟨0, by kernel_rfl⟩
theorem Fo8_1 : FOff Try.prog 8 1 1 := ⟨0, by kernel_rfl⟩
theorem Fo8_2 : FOff Try.prog 8 2 2 := ⟨0, by kernel_rfl⟩
theorem Fo8_3 : FOff Try.prog 8 3 3 := ⟨0, by kernel_rfl⟩
theorem Pl8 : Places Try.prog 8 [(0, 1), (1, 1), (2, 1), (3, 1)] := ⟨_, Try.underlying8, fun w => by kernel_rfl⟩
theorem Zr8 : ZeroT Try.prog 8 [.int .i64 0, .int .i64 0, .bool false, .int .u8 0] := ⟨.agg #[.int .i64 0, .int .i64 0, .bool false, .int .u8 0], fun w => by kernel_rfl, rfl⟩
theorem Sz9 : ∀ w, (sizeOf 9).run Try.prog w = .ok 1 w := fun w => by kernel_rfl
theorem Sc9 : Scal Try.prog 9 := fun w => ⟨by kernel_rfl, Sz9 w⟩
theorem Zr9 : ZeroT Try.prog 9 [.string ByteArray.empty] := ⟨.string ByteArray.empty, fun w => by kernel_rfl, rfl⟩
theorem Sz22 : ∀ w, (sizeOf 22).run Try.prog w = .ok 1 w := fun w => by kernel_rfl
theorem Sc22 : Scal Try.prog 22 := fun w => ⟨by kernel_rfl, Sz22 w⟩
theorem El22 : ElemT Try.prog 22 53 1 24 [.slice none 0 0] := elemT_of (by kernel_rfl)
theorem Is22 : IdxS Try.prog 22 53 1 := ⟨Try.underlying22, by kernel_rfl⟩
theorem Zr22 : ZeroT Try.prog 22 [.slice none 0 0] := ⟨.slice none 0 0, fun w => by kernel_rfl, rfl⟩
theorem Sz24 : ∀ w, (sizeOf 24).run Try.prog w = .ok 1 w := fun w => by kernel_rfl
theorem Sc24 : Scal Try.prog 24 := fun w => ⟨by kernel_rfl, Sz24 w⟩
theorem El24 : ElemT Try.prog 24 59 4 32 [.int .i64 0, .int .i64 0, .int .i64 0, .int .i64 0] := elemT_of (by kernel_rfl)
theorem Is24 : IdxS Try.prog 24 59 4 := ⟨Try.underlying24, by kernel_rfl⟩
theorem Zr24 : ZeroT Try.prog 24 [.slice none 0 0] := ⟨.slice none 0 0, fun w => by kernel_rfl, rfl⟩
theorem Sz26 : ∀ w, (sizeOf 26).run Try.prog w = .ok 1 w := fun w => by kernel_rfl
theorem Sc26 : Scal Try.prog 26 := fun w => ⟨by kernel_rfl, Sz26 w⟩
theorem El26 : ElemT Try.prog 26 24 1 24 [.slice none 0 0] := elemT_of (by kernel_rfl)
theorem Is26 : IdxS Try.prog 26 24 1 := ⟨Try.underlying26, by kernel_rfl⟩
theorem Zr26 : ZeroT Try.prog 26 [.slice none 0 0] := ⟨.slice none 0 0, fun w => by kernel_rfl, rfl⟩
theorem Sz33 : ∀ w, (sizeOf 33).run Try.prog w = .ok 1 w := fun w => by kernel_rfl
theorem Sc33 : Scal Try.prog 33 := fun w => ⟨by kernel_rfl, Sz33 w⟩
theorem El33 : ElemT Try.prog 33 5 1 1 [.int .u8 0] := elemT_of (by kernel_rfl)
theorem Is33 : IdxS Try.prog 33 5 1 := ⟨Try.underlying33, by kernel_rfl⟩
theorem Zr33 : ZeroT Try.prog 33 [.slice none 0 0] := ⟨.slice none 0 0, fun w => by kernel_rfl, rfl⟩
theorem Sz35 : ∀ w, (sizeOf 35).run Try.prog w = .ok 1 w := fun w => by kernel_rfl
theorem Sc35 : Scal Try.prog 35 := fun w => ⟨by kernel_rfl, Sz35 w⟩
theorem Zr35 : ZeroT Try.prog 35 [.pointer none] := ⟨.pointer none, fun w => by kernel_rfl, rfl⟩
theorem Sz37 : ∀ w, (sizeOf 37).run Try.prog w = .ok 1 w := fun w => by kernel_rfl
theorem Sc37 : Scal Try.prog 37 := fun w => ⟨by kernel_rfl, Sz37 w⟩
theorem Zr37 : ZeroT Try.prog 37 [.int .u64 0] := ⟨.int .u64 0, fun w => by kernel_rfl, rfl⟩
theorem Sz41 : ∀ w, (sizeOf 41).run Try.prog w = .ok 3 w := fun w => by kernel_rfl
theorem Ag41 : Aggr Try.prog 41 3 := fun w => ⟨by kernel_rfl, Sz41 w⟩
theorem Fo41_0 : FOff Try.prog 41 0 0 := ⟨0, by kernel_rfl⟩
theorem Fo41_1 : FOff Try.prog 41 1 1 := ⟨0, by kernel_rfl⟩
theorem Fo41_2 : FOff Try.prog 41 2 2 := ⟨0, by kernel_rfl⟩
theorem Pl41 : Places Try.prog 41 [(0, 1), (1, 1), (2, 1)] := ⟨_, Try.underlying41, fun w => by kernel_rfl⟩
theorem Zr41 : ZeroT Try.prog 41 [.int .i64 0, .int .i64 0, .int .i64 0] := ⟨.agg #[.int .i64 0, .int .i64 0, .int .i64 0], fun w => by kernel_rfl, rfl⟩
theorem Sz42 : ∀ w, (sizeOf 42).run Try.prog w = .ok 3 w := fun w => by kernel_rfl
theorem Ag42 : Aggr Try.prog 42 3 := fun w => ⟨by kernel_rfl, Sz42 w⟩
theorem Fo42_0 : FOff Try.prog 42 0 0 := ⟨0, by kernel_rfl⟩
theorem Fo42_1 : FOff Try.prog 42 1 1 := ⟨0, by kernel_rfl⟩
theorem Fo42_2 : FOff Try.prog 42 2 2 := ⟨0, by kernel_rfl⟩
theorem Pl42 : Places Try.prog 42 [(0, 1), (1, 1), (2, 1)] := ⟨_, Try.underlying42, fun w => by kernel_rfl⟩
theorem Zr42 : ZeroT Try.prog 42 [.int .i64 0, .int .i64 0, .int .i64 0] := ⟨.agg #[.int .i64 0, .int .i64 0, .int .i64 0], fun w => by kernel_rfl, rfl⟩
theorem Sz44 : ∀ w, (sizeOf 44).run Try.prog w = .ok 1 w := fun w => by kernel_rfl
theorem Sc44 : Scal Try.prog 44 := fun w => ⟨by kernel_rfl, Sz44 w⟩
theorem El44 : ElemT Try.prog 44 92 1 24 [.slice none 0 0] := elemT_of (by kernel_rfl)
theorem Is44 : IdxS Try.prog 44 92 1 := ⟨Try.underlying44, by kernel_rfl⟩
theorem Zr44 : ZeroT Try.prog 44 [.slice none 0 0] := ⟨.slice none 0 0, fun w => by kernel_rfl, rfl⟩
theorem Sz48 : ∀ w, (sizeOf 48).run Try.prog w = .ok 1 w := fun w => by kernel_rfl
theorem Sc48 : Scal Try.prog 48 := fun w => ⟨by kernel_rfl, Sz48 w⟩
theorem El48 : ElemT Try.prog 48 2 1 8 [.int .i64 0] := elemT_of (by kernel_rfl)
theorem Is48 : IdxS Try.prog 48 2 1 := ⟨Try.underlying48, by kernel_rfl⟩
theorem Zr48 : ZeroT Try.prog 48 [.slice none 0 0] := ⟨.slice none 0 0, fun w => by kernel_rfl, rfl⟩
theorem Sz53 : ∀ w, (sizeOf 53).run Try.prog w = .ok 1 w := fun w => by kernel_rfl
theorem Sc53 : Scal Try.prog 53 := fun w => ⟨by kernel_rfl, Sz53 w⟩
theorem El53 : ElemT Try.prog 53 104 4 32 [.int .i64 0, .int .i64 0, .int .i64 0, .int .i64 0] := elemT_of (by kernel_rfl)
theorem Is53 : IdxS Try.prog 53 104 4 := ⟨Try.underlying53, by kernel_rfl⟩
theorem Zr53 : ZeroT Try.prog 53 [.slice none 0 0] := ⟨.slice none 0 0, fun w => by kernel_rfl, rfl⟩
theorem Sz58 : ∀ w, (sizeOf 58).run Try.prog w = .ok 4 w := fun w => by kernel_rfl
theorem Ag58 : Aggr Try.prog 58 4 := fun w => ⟨by kernel_rfl, Sz58 w⟩
theorem Fo58_0 : FOff Try.prog 58 0 0 := ⟨0, by kernel_rfl⟩
theorem Fo58_1 : FOff Try.prog 58 1 1 := ⟨0, by kernel_rfl⟩
theorem Fo58_2 : FOff Try.prog 58 2 2 := ⟨0, by kernel_rfl⟩
theorem Fo58_3 : FOff Try.prog 58 3 3 := ⟨0, by kernel_rfl⟩
theorem Pl58 : Places Try.prog 58 [(0, 1), (1, 1), (2, 1), (3, 1)] := ⟨_, Try.underlying58, fun w => by kernel_rfl⟩
theorem Zr58 : ZeroT Try.prog 58 [.int .i64 0, .int .i64 0, .int .i64 0, .int .i64 0] := ⟨.agg #[.int .i64 0, .int .i64 0, .int .i64 0, .int .i64 0], fun w => by kernel_rfl, rfl⟩
theorem Sz59 : ∀ w, (sizeOf 59).run Try.prog w = .ok 4 w := fun w => by kernel_rfl
theorem Ag59 : Aggr Try.prog 59 4 := fun w => ⟨by kernel_rfl, Sz59 w⟩
theorem Fo59_0 : FOff Try.prog 59 0 0 := ⟨0, by kernel_rfl⟩
theorem Fo59_1 : FOff Try.prog 59 1 1 := ⟨0, by kernel_rfl⟩
theorem Fo59_2 : FOff Try.prog 59 2 2 := ⟨0, by kernel_rfl⟩
theorem Fo59_3 : FOff Try.prog 59 3 3 := ⟨0, by kernel_rfl⟩
theorem Pl59 : Places Try.prog 59 [(0, 1), (1, 1), (2, 1), (3, 1)] := ⟨_, Try.underlying59, fun w => by kernel_rfl⟩
theorem Zr59 : ZeroT Try.prog 59 [.int .i64 0, .int .i64 0, .int .i64 0, .int .i64 0] := ⟨.agg #[.int .i64 0, .int .i64 0, .int .i64 0, .int .i64 0], fun w => by kernel_rfl, rfl⟩
theorem Sz61 : ∀ w, (sizeOf 61).run Try.prog w = .ok 1 w := fun w => by kernel_rfl
theorem Sc61 : Scal Try.prog 61 := fun w => ⟨by kernel_rfl, Sz61 w⟩
theorem El61 : ElemT Try.prog 61 65 6 48 [.int .i64 0, .int .i64 0, .int .i64 0, .int .i64 0, .int .i64 0, .bool false] := elemT_of (by kernel_rfl)
theorem Is61 : IdxS Try.prog 61 65 6 := ⟨Try.underlying61, by kernel_rfl⟩
theorem Zr61 : ZeroT Try.prog 61 [.slice none 0 0] := ⟨.slice none 0 0, fun w => by kernel_rfl, rfl⟩
theorem Sz64 : ∀ w, (sizeOf 64).run Try.prog w = .ok 6 w := fun w => by kernel_rfl
theorem Ag64 : Aggr Try.prog 64 6 := fun w => ⟨by kernel_rfl, Sz64 w⟩
theorem Fo64_0 : FOff Try.prog 64 0 0 := ⟨3, by kernel_rfl⟩
theorem Fo64_1 : FOff Try.prog 64 1 4 := ⟨0, by kernel_rfl⟩
theorem Fo64_2 : FOff Try.prog 64 2 5 := ⟨0, by kernel_rfl⟩
theorem Pl64 : Places Try.prog 64 [(0, 4), (4, 1), (5, 1)] := ⟨_, Try.underlying64, fun w => by kernel_rfl⟩
theorem Zr64 : ZeroT Try.prog 64 [.int .i64 0, .int .i64 0, .int .i64 0, .int .i64 0, .int .i64 0, .bool false] := ⟨.agg #[.int .i64 0, .int .i64 0, .int .i64 0, .int .i64 0, .int .i64 0, .bool false], fun w => by kernel_rfl, rfl⟩
theorem Sz65 : ∀ w, (sizeOf 65).run Try.prog w = .ok 6 w := fun w => by kernel_rfl
theorem Ag65 : Aggr Try.prog 65 6 := fun w => ⟨by kernel_rfl, Sz65 w⟩
theorem Fo65_0 : FOff Try.prog 65 0 0 := ⟨3, by kernel_rfl⟩
theorem Fo65_1 : FOff Try.prog 65 1 4 := ⟨0, by kernel_rfl⟩
theorem Fo65_2 : FOff Try.prog 65 2 5 := ⟨0, by kernel_rfl⟩
theorem Pl65 : Places Try.prog 65 [(0, 4), (4, 1), (5, 1)] := ⟨_, Try.underlying65, fun w => by kernel_rfl⟩
theorem Zr65 : ZeroT Try.prog 65 [.int .i64 0, .int .i64 0, .int .i64 0, .int .i64 0, .int .i64 0, .bool false] := ⟨.agg #[.int .i64 0, .int .i64 0, .int .i64 0, .int .i64 0, .int .i64 0, .bool false], fun w => by kernel_rfl, rfl⟩
theorem Sz67 : ∀ w, (sizeOf 67).run Try.prog w = .ok 1 w := fun w => by kernel_rfl
theorem Sc67 : Scal Try.prog 67 := fun w => ⟨by kernel_rfl, Sz67 w⟩
theorem El67 : ElemT Try.prog 67 4 1 1 [.bool false] := elemT_of (by kernel_rfl)
theorem Is67 : IdxS Try.prog 67 4 1 := ⟨Try.underlying67, by kernel_rfl⟩
theorem Zr67 : ZeroT Try.prog 67 [.slice none 0 0] := ⟨.slice none 0 0, fun w => by kernel_rfl, rfl⟩
theorem Sz72 : ∀ w, (sizeOf 72).run Try.prog w = .ok 3 w := fun w => by kernel_rfl
theorem Ag72 : Aggr Try.prog 72 3 := fun w => ⟨by kernel_rfl, Sz72 w⟩
theorem Fo72_0 : FOff Try.prog 72 0 0 := ⟨0, by kernel_rfl⟩
theorem Fo72_1 : FOff Try.prog 72 1 1 := ⟨0, by kernel_rfl⟩
theorem Fo72_2 : FOff Try.prog 72 2 2 := ⟨0, by kernel_rfl⟩
theorem Pl72 : Places Try.prog 72 [(0, 1), (1, 1), (2, 1)] := ⟨_, Try.underlying72, fun w => by kernel_rfl⟩
theorem Zr72 : ZeroT Try.prog 72 [.slice none 0 0, .int .i64 0, .int .u64 0] := ⟨.agg #[.slice none 0 0, .int .i64 0, .int .u64 0], fun w => by kernel_rfl, rfl⟩
theorem Sz73 : ∀ w, (sizeOf 73).run Try.prog w = .ok 3 w := fun w => by kernel_rfl
theorem Ag73 : Aggr Try.prog 73 3 := fun w => ⟨by kernel_rfl, Sz73 w⟩
theorem Fo73_0 : FOff Try.prog 73 0 0 := ⟨0, by kernel_rfl⟩
theorem Fo73_1 : FOff Try.prog 73 1 1 := ⟨0, by kernel_rfl⟩
theorem Fo73_2 : FOff Try.prog 73 2 2 := ⟨0, by kernel_rfl⟩
theorem Pl73 : Places Try.prog 73 [(0, 1), (1, 1), (2, 1)] := ⟨_, Try.underlying73, fun w => by kernel_rfl⟩
theorem Zr73 : ZeroT Try.prog 73 [.slice none 0 0, .int .i64 0, .int .u64 0] := ⟨.agg #[.slice none 0 0, .int .i64 0, .int .u64 0], fun w => by kernel_rfl, rfl⟩
theorem Sz75 : ∀ w, (sizeOf 75).run Try.prog w = .ok 1 w := fun w => by kernel_rfl
theorem Sc75 : Scal Try.prog 75 := fun w => ⟨by kernel_rfl, Sz75 w⟩
theorem Zr75 : ZeroT Try.prog 75 [.pointer none] := ⟨.pointer none, fun w => by kernel_rfl, rfl⟩
theorem Sz81 : ∀ w, (sizeOf 81).run Try.prog w = .ok 1 w := fun w => by kernel_rfl
theorem Sc81 : Scal Try.prog 81 := fun w => ⟨by kernel_rfl, Sz81 w⟩
theorem El81 : ElemT Try.prog 81 88 2 32 [.int .i64 0, .slice none 0 0] := elemT_of (by kernel_rfl)
theorem Is81 : IdxS Try.prog 81 88 2 := ⟨Try.underlying81, by kernel_rfl⟩
theorem Zr81 : ZeroT Try.prog 81 [.slice none 0 0] := ⟨.slice none 0 0, fun w => by kernel_rfl, rfl⟩
theorem Sz86 : ∀ w, (sizeOf 86).run Try.prog w = .ok 1 w := fun w => by kernel_rfl
theorem Sc86 : Scal Try.prog 86 := fun w => ⟨by kernel_rfl, Sz86 w⟩
theorem El86 : ElemT Try.prog 86 90 2 32 [.int .i64 0, .slice none 0 0] := elemT_of (by kernel_rfl)
theorem Is86 : IdxS Try.prog 86 90 2 := ⟨Try.underlying86, by kernel_rfl⟩
theorem Zr86 : ZeroT Try.prog 86 [.slice none 0 0] := ⟨.slice none 0 0, fun w => by kernel_rfl, rfl⟩
theorem Sz87 : ∀ w, (sizeOf 87).run Try.prog w = .ok 2 w := fun w => by kernel_rfl
theorem Ag87 : Aggr Try.prog 87 2 := fun w => ⟨by kernel_rfl, Sz87 w⟩
theorem Fo87_0 : FOff Try.prog 87 0 0 := ⟨0, by kernel_rfl⟩
theorem Fo87_1 : FOff Try.prog 87 1 1 := ⟨0, by kernel_rfl⟩
theorem Pl87 : Places Try.prog 87 [(0, 1), (1, 1)] := ⟨_, Try.underlying87, fun w => by kernel_rfl⟩
theorem Zr87 : ZeroT Try.prog 87 [.int .i64 0, .slice none 0 0] := ⟨.agg #[.int .i64 0, .slice none 0 0], fun w => by kernel_rfl, rfl⟩
theorem Sz88 : ∀ w, (sizeOf 88).run Try.prog w = .ok 2 w := fun w => by kernel_rfl
theorem Ag88 : Aggr Try.prog 88 2 := fun w => ⟨by kernel_rfl, Sz88 w⟩
theorem Fo88_0 : FOff Try.prog 88 0 0 := ⟨0, by kernel_rfl⟩
theorem Fo88_1 : FOff Try.prog 88 1 1 := ⟨0, by kernel_rfl⟩
theorem Pl88 : Places Try.prog 88 [(0, 1), (1, 1)] := ⟨_, Try.underlying88, fun w => by kernel_rfl⟩
theorem Zr88 : ZeroT Try.prog 88 [.int .i64 0, .slice none 0 0] := ⟨.agg #[.int .i64 0, .slice none 0 0], fun w => by kernel_rfl, rfl⟩
theorem Sz89 : ∀ w, (sizeOf 89).run Try.prog w = .ok 2 w := fun w => by kernel_rfl
theorem Ag89 : Aggr Try.prog 89 2 := fun w => ⟨by kernel_rfl, Sz89 w⟩
theorem Fo89_0 : FOff Try.prog 89 0 0 := ⟨0, by kernel_rfl⟩
theorem Fo89_1 : FOff Try.prog 89 1 1 := ⟨0, by kernel_rfl⟩
theorem Pl89 : Places Try.prog 89 [(0, 1), (1, 1)] := ⟨_, Try.underlying89, fun w => by kernel_rfl⟩
theorem Zr89 : ZeroT Try.prog 89 [.int .i64 0, .slice none 0 0] := ⟨.agg #[.int .i64 0, .slice none 0 0], fun w => by kernel_rfl, rfl⟩
theorem Sz90 : ∀ w, (sizeOf 90).run Try.prog w = .ok 2 w := fun w => by kernel_rfl
theorem Ag90 : Aggr Try.prog 90 2 := fun w => ⟨by kernel_rfl, Sz90 w⟩
theorem Fo90_0 : FOff Try.prog 90 0 0 := ⟨0, by kernel_rfl⟩
theorem Fo90_1 : FOff Try.prog 90 1 1 := ⟨0, by kernel_rfl⟩
theorem Pl90 : Places Try.prog 90 [(0, 1), (1, 1)] := ⟨_, Try.underlying90, fun w => by kernel_rfl⟩
theorem Zr90 : ZeroT Try.prog 90 [.int .i64 0, .slice none 0 0] := ⟨.agg #[.int .i64 0, .slice none 0 0], fun w => by kernel_rfl, rfl⟩
theorem Sz91 : ∀ w, (sizeOf 91).run Try.prog w = .ok 1 w := fun w => by kernel_rfl
theorem Ag91 : Aggr Try.prog 91 1 := fun w => ⟨by kernel_rfl, Sz91 w⟩
theorem Fo91_0 : FOff Try.prog 91 0 0 := ⟨0, by kernel_rfl⟩
theorem Pl91 : Places Try.prog 91 [(0, 1)] := ⟨_, Try.underlying91, fun w => by kernel_rfl⟩
theorem Zr91 : ZeroT Try.prog 91 [.slice none 0 0] := ⟨.agg #[.slice none 0 0], fun w => by kernel_rfl, rfl⟩
theorem Sz92 : ∀ w, (sizeOf 92).run Try.prog w = .ok 1 w := fun w => by kernel_rfl
theorem Ag92 : Aggr Try.prog 92 1 := fun w => ⟨by kernel_rfl, Sz92 w⟩
theorem Fo92_0 : FOff Try.prog 92 0 0 := ⟨0, by kernel_rfl⟩
theorem Pl92 : Places Try.prog 92 [(0, 1)] := ⟨_, Try.underlying92, fun w => by kernel_rfl⟩
theorem Zr92 : ZeroT Try.prog 92 [.slice none 0 0] := ⟨.agg #[.slice none 0 0], fun w => by kernel_rfl, rfl⟩
theorem Sz96 : ∀ w, (sizeOf 96).run Try.prog w = .ok 1 w := fun w => by kernel_rfl
theorem Sc96 : Scal Try.prog 96 := fun w => ⟨by kernel_rfl, Sz96 w⟩
theorem Zr96 : ZeroT Try.prog 96 [.nilFunc] := ⟨.nilFunc, fun w => by kernel_rfl, rfl⟩
theorem Sz97 : ∀ w, (sizeOf 97).run Try.prog w = .ok 1 w := fun w => by kernel_rfl
theorem Sc97 : Scal Try.prog 97 := fun w => ⟨by kernel_rfl, Sz97 w⟩
theorem El97 : ElemT Try.prog 97 67 1 24 [.slice none 0 0] := elemT_of (by kernel_rfl)
theorem Is97 : IdxS Try.prog 97 67 1 := ⟨Try.underlying97, by kernel_rfl⟩
theorem Zr97 : ZeroT Try.prog 97 [.slice none 0 0] := ⟨.slice none 0 0, fun w => by kernel_rfl, rfl⟩
theorem Sz104 : ∀ w, (sizeOf 104).run Try.prog w = .ok 4 w := fun w => by kernel_rfl
theorem Ag104 : Aggr Try.prog 104 4 := fun w => ⟨by kernel_rfl, Sz104 w⟩
theorem Fo104_0 : FOff Try.prog 104 0 0 := ⟨0, by kernel_rfl⟩
theorem Fo104_1 : FOff Try.prog 104 1 1 := ⟨0, by kernel_rfl⟩
theorem Fo104_2 : FOff Try.prog 104 2 2 := ⟨0, by kernel_rfl⟩
theorem Fo104_3 : FOff Try.prog 104 3 3 := ⟨0, by kernel_rfl⟩
theorem Pl104 : Places Try.prog 104 [(0, 1), (1, 1), (2, 1), (3, 1)] := ⟨_, Try.underlying104, fun w => by kernel_rfl⟩
theorem Zr104 : ZeroT Try.prog 104 [.int .i64 0, .int .i64 0, .int .i64 0, .int .i64 0] := ⟨.agg #[.int .i64 0, .int .i64 0, .int .i64 0, .int .i64 0], fun w => by kernel_rfl, rfl⟩
theorem Sz106 : ∀ w, (sizeOf 106).run Try.prog w = .ok 1 w := fun w => by kernel_rfl
theorem Sc106 : Scal Try.prog 106 := fun w => ⟨by kernel_rfl, Sz106 w⟩
theorem Zr106 : ZeroT Try.prog 106 [.pointer none] := ⟨.pointer none, fun w => by kernel_rfl, rfl⟩
theorem Sz113 : ∀ w, (sizeOf 113).run Try.prog w = .ok 80 w := fun w => by kernel_rfl
theorem Ag113 : Aggr Try.prog 113 80 := fun w => ⟨by kernel_rfl, Sz113 w⟩
theorem Ia113 : IdxA Try.prog 113 80 1 := ⟨4, Try.underlying113, by kernel_rfl⟩
theorem Sz114 : ∀ w, (sizeOf 114).run Try.prog w = .ok 6400 w := fun w => by kernel_rfl
theorem Ag114 : Aggr Try.prog 114 6400 := fun w => ⟨by kernel_rfl, Sz114 w⟩
theorem Ia114 : IdxA Try.prog 114 80 80 := ⟨113, Try.underlying114, by kernel_rfl⟩
theorem Sz115 : ∀ w, (sizeOf 115).run Try.prog w = .ok 6400 w := fun w => by kernel_rfl
theorem Ag115 : Aggr Try.prog 115 6400 := fun w => ⟨by kernel_rfl, Sz115 w⟩
theorem Ia115 : IdxA Try.prog 115 80 80 := ⟨113, Try.underlying115, by kernel_rfl⟩
theorem Sz120 : ∀ w, (sizeOf 120).run Try.prog w = .ok 3 w := fun w => by kernel_rfl
theorem Ag120 : Aggr Try.prog 120 3 := fun w => ⟨by kernel_rfl, Sz120 w⟩
theorem Fo120_0 : FOff Try.prog 120 0 0 := ⟨0, by kernel_rfl⟩
theorem Fo120_1 : FOff Try.prog 120 1 1 := ⟨0, by kernel_rfl⟩
theorem Fo120_2 : FOff Try.prog 120 2 2 := ⟨0, by kernel_rfl⟩
theorem Pl120 : Places Try.prog 120 [(0, 1), (1, 1), (2, 1)] := ⟨_, Try.underlying120, fun w => by kernel_rfl⟩
theorem Zr120 : ZeroT Try.prog 120 [.slice none 0 0, .int .i64 0, .int .i64 0] := ⟨.agg #[.slice none 0 0, .int .i64 0, .int .i64 0], fun w => by kernel_rfl, rfl⟩
theorem Sz121 : ∀ w, (sizeOf 121).run Try.prog w = .ok 3 w := fun w => by kernel_rfl
theorem Ag121 : Aggr Try.prog 121 3 := fun w => ⟨by kernel_rfl, Sz121 w⟩
theorem Fo121_0 : FOff Try.prog 121 0 0 := ⟨0, by kernel_rfl⟩
theorem Fo121_1 : FOff Try.prog 121 1 1 := ⟨0, by kernel_rfl⟩
theorem Fo121_2 : FOff Try.prog 121 2 2 := ⟨0, by kernel_rfl⟩
theorem Pl121 : Places Try.prog 121 [(0, 1), (1, 1), (2, 1)] := ⟨_, Try.underlying121, fun w => by kernel_rfl⟩
theorem Zr121 : ZeroT Try.prog 121 [.slice none 0 0, .int .i64 0, .int .i64 0] := ⟨.agg #[.slice none 0 0, .int .i64 0, .int .i64 0], fun w => by kernel_rfl, rfl⟩
theorem Sz123 : ∀ w, (sizeOf 123).run Try.prog w = .ok 1 w := fun w => by kernel_rfl
theorem Sc123 : Scal Try.prog 123 := fun w => ⟨by kernel_rfl, Sz123 w⟩
theorem Zr123 : ZeroT Try.prog 123 [.int .u64 0] := ⟨.int .u64 0, fun w => by kernel_rfl, rfl⟩
theorem Sz125 : ∀ w, (sizeOf 125).run Try.prog w = .ok 1 w := fun w => by kernel_rfl
theorem Sc125 : Scal Try.prog 125 := fun w => ⟨by kernel_rfl, Sz125 w⟩
theorem El125 : ElemT Try.prog 125 3 1 8 [.int .i64 0] := elemT_of (by kernel_rfl)
theorem Is125 : IdxS Try.prog 125 3 1 := ⟨Try.underlying125, by kernel_rfl⟩
theorem Zr125 : ZeroT Try.prog 125 [.slice none 0 0] := ⟨.slice none 0 0, fun w => by kernel_rfl, rfl⟩
theorem Sz132 : ∀ w, (sizeOf 132).run Try.prog w = .ok 1 w := fun w => by kernel_rfl
theorem Sc132 : Scal Try.prog 132 := fun w => ⟨by kernel_rfl, Sz132 w⟩
theorem El132 : ElemT Try.prog 132 135 2 16 [.int .i64 0, .int .i64 0] := elemT_of (by kernel_rfl)
theorem Is132 : IdxS Try.prog 132 135 2 := ⟨Try.underlying132, by kernel_rfl⟩
theorem Zr132 : ZeroT Try.prog 132 [.slice none 0 0] := ⟨.slice none 0 0, fun w => by kernel_rfl, rfl⟩
theorem Sz134 : ∀ w, (sizeOf 134).run Try.prog w = .ok 2 w := fun w => by kernel_rfl
theorem Ag134 : Aggr Try.prog 134 2 := fun w => ⟨by kernel_rfl, Sz134 w⟩
theorem Fo134_0 : FOff Try.prog 134 0 0 := ⟨0, by kernel_rfl⟩
theorem Fo134_1 : FOff Try.prog 134 1 1 := ⟨0, by kernel_rfl⟩
theorem Pl134 : Places Try.prog 134 [(0, 1), (1, 1)] := ⟨_, Try.underlying134, fun w => by kernel_rfl⟩
theorem Zr134 : ZeroT Try.prog 134 [.int .i64 0, .int .i64 0] := ⟨.agg #[.int .i64 0, .int .i64 0], fun w => by kernel_rfl, rfl⟩
theorem Sz135 : ∀ w, (sizeOf 135).run Try.prog w = .ok 2 w := fun w => by kernel_rfl
theorem Ag135 : Aggr Try.prog 135 2 := fun w => ⟨by kernel_rfl, Sz135 w⟩
theorem Fo135_0 : FOff Try.prog 135 0 0 := ⟨0, by kernel_rfl⟩
theorem Fo135_1 : FOff Try.prog 135 1 1 := ⟨0, by kernel_rfl⟩
theorem Pl135 : Places Try.prog 135 [(0, 1), (1, 1)] := ⟨_, Try.underlying135, fun w => by kernel_rfl⟩
theorem Zr135 : ZeroT Try.prog 135 [.int .i64 0, .int .i64 0] := ⟨.agg #[.int .i64 0, .int .i64 0], fun w => by kernel_rfl, rfl⟩
theorem Sz152 : ∀ w, (sizeOf 152).run Try.prog w = .ok 1 w := fun w => by kernel_rfl
theorem Sc152 : Scal Try.prog 152 := fun w => ⟨by kernel_rfl, Sz152 w⟩
theorem Zr152 : ZeroT Try.prog 152 [.nilFunc] := ⟨.nilFunc, fun w => by kernel_rfl, rfl⟩
theorem Sz156 : ∀ w, (sizeOf 156).run Try.prog w = .ok 1 w := fun w => by kernel_rfl
theorem Sc156 : Scal Try.prog 156 := fun w => ⟨by kernel_rfl, Sz156 w⟩
theorem Zr156 : ZeroT Try.prog 156 [.nilFunc] := ⟨.nilFunc, fun w => by kernel_rfl, rfl⟩
theorem Sz159 : ∀ w, (sizeOf 159).run Try.prog w = .ok 2 w := fun w => by kernel_rfl
theorem Ag159 : Aggr Try.prog 159 2 := fun w => ⟨by kernel_rfl, Sz159 w⟩
theorem Ia159 : IdxA Try.prog 159 2 1 := ⟨3, Try.underlying159, by kernel_rfl⟩
theorem Sz160 : ∀ w, (sizeOf 160).run Try.prog w = .ok 1 w := fun w => by kernel_rfl
theorem Sc160 : Scal Try.prog 160 := fun w => ⟨by kernel_rfl, Sz160 w⟩
theorem El160 : ElemT Try.prog 160 159 2 16 [.int .i64 0, .int .i64 0] := elemT_of (by kernel_rfl)
theorem Is160 : IdxS Try.prog 160 159 2 := ⟨Try.underlying160, by kernel_rfl⟩
theorem Zr160 : ZeroT Try.prog 160 [.slice none 0 0] := ⟨.slice none 0 0, fun w => by kernel_rfl, rfl⟩
theorem Sz167 : ∀ w, (sizeOf 167).run Try.prog w = .ok 1 w := fun w => by kernel_rfl
theorem Sc167 : Scal Try.prog 167 := fun w => ⟨by kernel_rfl, Sz167 w⟩
theorem Zr167 : ZeroT Try.prog 167 [.int .i64 0] := ⟨.int .i64 0, fun w => by kernel_rfl, rfl⟩
theorem Sz175 : ∀ w, (sizeOf 175).run Try.prog w = .ok 1 w := fun w => by kernel_rfl
theorem Sc175 : Scal Try.prog 175 := fun w => ⟨by kernel_rfl, Sz175 w⟩
theorem Zr175 : ZeroT Try.prog 175 [.int .u32 0] := ⟨.int .u32 0, fun w => by kernel_rfl, rfl⟩
theorem Sz178 : ∀ w, (sizeOf 178).run Try.prog w = .ok 1 w := fun w => by kernel_rfl
theorem Sc178 : Scal Try.prog 178 := fun w => ⟨by kernel_rfl, Sz178 w⟩
theorem Zr178 : ZeroT Try.prog 178 [.int .u64 0] := ⟨.int .u64 0, fun w => by kernel_rfl, rfl⟩
theorem Sz182 : ∀ w, (sizeOf 182).run Try.prog w = .ok 1 w := fun w => by kernel_rfl
theorem Sc182 : Scal Try.prog 182 := fun w => ⟨by kernel_rfl, Sz182 w⟩
theorem Zr182 : ZeroT Try.prog 182 [.pointer none] := ⟨.pointer none, fun w => by kernel_rfl, rfl⟩
theorem En3 : Ent Try.prog 3 := ent_of Try.func3 (by kernel_rfl) (by kernel_rfl)
theorem En4 : Ent Try.prog 4 := ent_of Try.func4 (by kernel_rfl) (by kernel_rfl)
theorem En5 : Ent Try.prog 5 := ent_of Try.func5 (by kernel_rfl) (by kernel_rfl)
theorem En6 : Ent Try.prog 6 := ent_of Try.func6 (by kernel_rfl) (by kernel_rfl)
theorem En7 : Ent Try.prog 7 := ent_of Try.func7 (by kernel_rfl) (by kernel_rfl)
theorem En8 : Ent Try.prog 8 := ent_of Try.func8 (by kernel_rfl) (by kernel_rfl)
theorem En9 : Ent Try.prog 9 := ent_of Try.func9 (by kernel_rfl) (by kernel_rfl)
theorem En10 : Ent Try.prog 10 := ent_of Try.func10 (by kernel_rfl) (by kernel_rfl)
theorem En11 : Ent Try.prog 11 := ent_of Try.func11 (by kernel_rfl) (by kernel_rfl)
theorem En12 : Ent Try.prog 12 := ent_of Try.func12 (by kernel_rfl) (by kernel_rfl)
theorem En13 : Ent Try.prog 13 := ent_of Try.func13 (by kernel_rfl) (by kernel_rfl)
theorem En14 : Ent Try.prog 14 := ent_of Try.func14 (by kernel_rfl) (by kernel_rfl)
theorem En15 : Ent Try.prog 15 := ent_of Try.func15 (by kernel_rfl) (by kernel_rfl)
theorem En16 : Ent Try.prog 16 := ent_of Try.func16 (by kernel_rfl) (by kernel_rfl)
theorem En17 : Ent Try.prog 17 := ent_of Try.func17 (by kernel_rfl) (by kernel_rfl)
theorem En18 : Ent Try.prog 18 := ent_of Try.func18 (by kernel_rfl) (by kernel_rfl)
theorem En19 : Ent Try.prog 19 := ent_of Try.func19 (by kernel_rfl) (by kernel_rfl)
theorem En20 : Ent Try.prog 20 := ent_of Try.func20 (by kernel_rfl) (by kernel_rfl)
theorem En21 : Ent Try.prog 21 := ent_of Try.func21 (by kernel_rfl) (by kernel_rfl)
theorem En22 : Ent Try.prog 22 := ent_of Try.func22 (by kernel_rfl) (by kernel_rfl)
theorem En23 : Ent Try.prog 23 := ent_of Try.func23 (by kernel_rfl) (by kernel_rfl)
theorem En24 : Ent Try.prog 24 := ent_of Try.func24 (by kernel_rfl) (by kernel_rfl)
theorem En25 : Ent Try.prog 25 := ent_of Try.func25 (by kernel_rfl) (by kernel_rfl)
theorem En26 : Ent Try.prog 26 := ent_of Try.func26 (by kernel_rfl) (by kernel_rfl)
theorem En27 : Ent Try.prog 27 := ent_of Try.func27 (by kernel_rfl) (by kernel_rfl)
theorem En28 : Ent Try.prog 28 := ent_of Try.func28 (by kernel_rfl) (by kernel_rfl)
theorem En29 : Ent Try.prog 29 := ent_of Try.func29 (by kernel_rfl) (by kernel_rfl)
theorem En30 : Ent Try.prog 30 := ent_of Try.func30 (by kernel_rfl) (by kernel_rfl)
theorem En31 : Ent Try.prog 31 := ent_of Try.func31 (by kernel_rfl) (by kernel_rfl)
theorem En32 : Ent Try.prog 32 := ent_of Try.func32 (by kernel_rfl) (by kernel_rfl)
theorem En33 : Ent Try.prog 33 := ent_of Try.func33 (by kernel_rfl) (by kernel_rfl)
theorem En34 : Ent Try.prog 34 := ent_of Try.func34 (by kernel_rfl) (by kernel_rfl)
theorem En35 : Ent Try.prog 35 := ent_of Try.func35 (by kernel_rfl) (by kernel_rfl)
theorem En36 : Ent Try.prog 36 := ent_of Try.func36 (by kernel_rfl) (by kernel_rfl)
theorem En37 : Ent Try.prog 37 := ent_of Try.func37 (by kernel_rfl) (by kernel_rfl)
theorem En38 : Ent Try.prog 38 := ent_of Try.func38 (by kernel_rfl) (by kernel_rfl)
theorem En39 : Ent Try.prog 39 := ent_of Try.func39 (by kernel_rfl) (by kernel_rfl)
theorem En40 : Ent Try.prog 40 := ent_of Try.func40 (by kernel_rfl) (by kernel_rfl)
theorem En41 : Ent Try.prog 41 := ent_of Try.func41 (by kernel_rfl) (by kernel_rfl)
theorem En42 : Ent Try.prog 42 := ent_of Try.func42 (by kernel_rfl) (by kernel_rfl)
theorem En43 : Ent Try.prog 43 := ent_of Try.func43 (by kernel_rfl) (by kernel_rfl)
theorem En44 : Ent Try.prog 44 := ent_of Try.func44 (by kernel_rfl) (by kernel_rfl)
theorem En45 : Ent Try.prog 45 := ent_of Try.func45 (by kernel_rfl) (by kernel_rfl)
theorem En46 : Ent Try.prog 46 := ent_of Try.func46 (by kernel_rfl) (by kernel_rfl)
theorem En47 : Ent Try.prog 47 := ent_of Try.func47 (by kernel_rfl) (by kernel_rfl)
theorem En48 : Ent Try.prog 48 := ent_of Try.func48 (by kernel_rfl) (by kernel_rfl)
theorem En49 : Ent Try.prog 49 := ent_of Try.func49 (by kernel_rfl) (by kernel_rfl)
theorem En50 : Ent Try.prog 50 := ent_of Try.func50 (by kernel_rfl) (by kernel_rfl)
theorem En51 : Ent Try.prog 51 := ent_of Try.func51 (by kernel_rfl) (by kernel_rfl)
theorem En52 : Ent Try.prog 52 := ent_of Try.func52 (by kernel_rfl) (by kernel_rfl)
theorem En53 : Ent Try.prog 53 := ent_of Try.func53 (by kernel_rfl) (by kernel_rfl)
theorem En54 : Ent Try.prog 54 := ent_of Try.func54 (by kernel_rfl) (by kernel_rfl)
theorem En55 : Ent Try.prog 55 := ent_of Try.func55 (by kernel_rfl) (by kernel_rfl)
theorem En56 : Ent Try.prog 56 := ent_of Try.func56 (by kernel_rfl) (by kernel_rfl)
theorem En57 : Ent Try.prog 57 := ent_of Try.func57 (by kernel_rfl) (by kernel_rfl)
theorem En58 : Ent Try.prog 58 := ent_of Try.func58 (by kernel_rfl) (by kernel_rfl)
theorem En59 : Ent Try.prog 59 := ent_of Try.func59 (by kernel_rfl) (by kernel_rfl)
theorem En60 : Ent Try.prog 60 := ent_of Try.func60 (by kernel_rfl) (by kernel_rfl)
theorem En61 : Ent Try.prog 61 := ent_of Try.func61 (by kernel_rfl) (by kernel_rfl)
theorem En62 : Ent Try.prog 62 := ent_of Try.func62 (by kernel_rfl) (by kernel_rfl)
theorem En63 : Ent Try.prog 63 := ent_of Try.func63 (by kernel_rfl) (by kernel_rfl)
theorem En64 : Ent Try.prog 64 := ent_of Try.func64 (by kernel_rfl) (by kernel_rfl)
theorem En65 : Ent Try.prog 65 := ent_of Try.func65 (by kernel_rfl) (by kernel_rfl)
theorem En66 : Ent Try.prog 66 := ent_of Try.func66 (by kernel_rfl) (by kernel_rfl)
theorem En67 : Ent Try.prog 67 := ent_of Try.func67 (by kernel_rfl) (by kernel_rfl)
theorem En68 : Ent Try.prog 68 := ent_of Try.func68 (by kernel_rfl) (by kernel_rfl)
theorem En69 : Ent Try.prog 69 := ent_of Try.func69 (by kernel_rfl) (by kernel_rfl)
theorem En70 : Ent Try.prog 70 := ent_of Try.func70 (by kernel_rfl) (by kernel_rfl)
theorem En71 : Ent Try.prog 71 := ent_of Try.func71 (by kernel_rfl) (by kernel_rfl)
theorem En72 : Ent Try.prog 72 := ent_of Try.func72 (by kernel_rfl) (by kernel_rfl)
theorem En73 : Ent Try.prog 73 := ent_of Try.func73 (by kernel_rfl) (by kernel_rfl)
theorem En74 : Ent Try.prog 74 := ent_of Try.func74 (by kernel_rfl) (by kernel_rfl)
theorem En75 : Ent Try.prog 75 := ent_of Try.func75 (by kernel_rfl) (by kernel_rfl)
theorem En76 : Ent Try.prog 76 := ent_of Try.func76 (by kernel_rfl) (by kernel_rfl)
theorem En77 : Ent Try.prog 77 := ent_of Try.func77 (by kernel_rfl) (by kernel_rfl)
theorem En78 : Ent Try.prog 78 := ent_of Try.func78 (by kernel_rfl) (by kernel_rfl)
theorem En79 : Ent Try.prog 79 := ent_of Try.func79 (by kernel_rfl) (by kernel_rfl)
theorem En80 : Ent Try.prog 80 := ent_of Try.func80 (by kernel_rfl) (by kernel_rfl)
theorem En81 : Ent Try.prog 81 := ent_of Try.func81 (by kernel_rfl) (by kernel_rfl)
theorem En82 : Ent Try.prog 82 := ent_of Try.func82 (by kernel_rfl) (by kernel_rfl)
theorem En83 : Ent Try.prog 83 := ent_of Try.func83 (by kernel_rfl) (by kernel_rfl)
theorem En84 : Ent Try.prog 84 := ent_of Try.func84 (by kernel_rfl) (by kernel_rfl)
theorem En85 : Ent Try.prog 85 := ent_of Try.func85 (by kernel_rfl) (by kernel_rfl)
theorem En86 : Ent Try.prog 86 := ent_of Try.func86 (by kernel_rfl) (by kernel_rfl)
theorem En87 : Ent Try.prog 87 := ent_of Try.func87 (by kernel_rfl) (by kernel_rfl)
theorem En88 : Ent Try.prog 88 := ent_of Try.func88 (by kernel_rfl) (by kernel_rfl)
theorem En89 : Ent Try.prog 89 := ent_of Try.func89 (by kernel_rfl) (by kernel_rfl)
theorem En90 : Ent Try.prog 90 := ent_of Try.func90 (by kernel_rfl) (by kernel_rfl)
theorem En91 : Ent Try.prog 91 := ent_of Try.func91 (by kernel_rfl) (by kernel_rfl)
theorem En92 : Ent Try.prog 92 := ent_of Try.func92 (by kernel_rfl) (by kernel_rfl)
theorem En93 : Ent Try.prog 93 := ent_of Try.func93 (by kernel_rfl) (by kernel_rfl)
theorem En94 : Ent Try.prog 94 := ent_of Try.func94 (by kernel_rfl) (by kernel_rfl)
theorem En95 : Ent Try.prog 95 := ent_of Try.func95 (by kernel_rfl) (by kernel_rfl)
theorem En96 : Ent Try.prog 96 := ent_of Try.func96 (by kernel_rfl) (by kernel_rfl)
theorem En97 : Ent Try.prog 97 := ent_of Try.func97 (by kernel_rfl) (by kernel_rfl)
theorem En98 : Ent Try.prog 98 := ent_of Try.func98 (by kernel_rfl) (by kernel_rfl)
theorem En99 : Ent Try.prog 99 := ent_of Try.func99 (by kernel_rfl) (by kernel_rfl)
theorem En100 : Ent Try.prog 100 := ent_of Try.func100 (by kernel_rfl) (by kernel_rfl)
theorem En101 : Ent Try.prog 101 := ent_of Try.func101 (by kernel_rfl) (by kernel_rfl)
theorem En102 : Ent Try.prog 102 := ent_of Try.func102 (by kernel_rfl) (by kernel_rfl)
theorem En103 : Ent Try.prog 103 := ent_of Try.func103 (by kernel_rfl) (by kernel_rfl)
theorem En104 : Ent Try.prog 104 := ent_of Try.func104 (by kernel_rfl) (by kernel_rfl)
theorem En105 : Ent Try.prog 105 := ent_of Try.func105 (by kernel_rfl) (by kernel_rfl)
theorem En106 : Ent Try.prog 106 := ent_of Try.func106 (by kernel_rfl) (by kernel_rfl)
theorem En107 : Ent Try.prog 107 := ent_of Try.func107 (by kernel_rfl) (by kernel_rfl)
theorem En108 : Ent Try.prog 108 := ent_of Try.func108 (by kernel_rfl) (by kernel_rfl)
theorem En109 : Ent Try.prog 109 := ent_of Try.func109 (by kernel_rfl) (by kernel_rfl)
theorem En110 : Ent Try.prog 110 := ent_of Try.func110 (by kernel_rfl) (by kernel_rfl)
theorem En111 : Ent Try.prog 111 := ent_of Try.func111 (by kernel_rfl) (by kernel_rfl)
theorem En112 : Ent Try.prog 112 := ent_of Try.func112 (by kernel_rfl) (by kernel_rfl)
theorem En113 : Ent Try.prog 113 := ent_of Try.func113 (by kernel_rfl) (by kernel_rfl)
theorem En114 : Ent Try.prog 114 := ent_of Try.func114 (by kernel_rfl) (by kernel_rfl)
theorem En115 : Ent Try.prog 115 := ent_of Try.func115 (by kernel_rfl) (by kernel_rfl)
theorem En116 : Ent Try.prog 116 := ent_of Try.func116 (by kernel_rfl) (by kernel_rfl)
theorem En117 : Ent Try.prog 117 := ent_of Try.func117 (by kernel_rfl) (by kernel_rfl)
theorem En118 : Ent Try.prog 118 := ent_of Try.func118 (by kernel_rfl) (by kernel_rfl)
theorem En119 : Ent Try.prog 119 := ent_of Try.func119 (by kernel_rfl) (by kernel_rfl)
theorem En120 : Ent Try.prog 120 := ent_of Try.func120 (by kernel_rfl) (by kernel_rfl)
theorem En121 : Ent Try.prog 121 := ent_of Try.func121 (by kernel_rfl) (by kernel_rfl)
theorem En122 : Ent Try.prog 122 := ent_of Try.func122 (by kernel_rfl) (by kernel_rfl)
theorem En123 : Ent Try.prog 123 := ent_of Try.func123 (by kernel_rfl) (by kernel_rfl)
theorem En124 : Ent Try.prog 124 := ent_of Try.func124 (by kernel_rfl) (by kernel_rfl)
theorem En125 : Ent Try.prog 125 := ent_of Try.func125 (by kernel_rfl) (by kernel_rfl)
theorem En126 : Ent Try.prog 126 := ent_of Try.func126 (by kernel_rfl) (by kernel_rfl)
theorem En127 : Ent Try.prog 127 := ent_of Try.func127 (by kernel_rfl) (by kernel_rfl)
theorem En128 : Ent Try.prog 128 := ent_of Try.func128 (by kernel_rfl) (by kernel_rfl)
theorem En129 : Ent Try.prog 129 := ent_of Try.func129 (by kernel_rfl) (by kernel_rfl)
theorem En130 : Ent Try.prog 130 := ent_of Try.func130 (by kernel_rfl) (by kernel_rfl)
theorem En131 : Ent Try.prog 131 := ent_of Try.func131 (by kernel_rfl) (by kernel_rfl)
theorem En132 : Ent Try.prog 132 := ent_of Try.func132 (by kernel_rfl) (by kernel_rfl)
theorem En133 : Ent Try.prog 133 := ent_of Try.func133 (by kernel_rfl) (by kernel_rfl)
theorem En134 : Ent Try.prog 134 := ent_of Try.func134 (by kernel_rfl) (by kernel_rfl)
theorem En135 : Ent Try.prog 135 := ent_of Try.func135 (by kernel_rfl) (by kernel_rfl)
theorem En136 : Ent Try.prog 136 := ent_of Try.func136 (by kernel_rfl) (by kernel_rfl)
theorem En137 : Ent Try.prog 137 := ent_of Try.func137 (by kernel_rfl) (by kernel_rfl)
theorem En138 : Ent Try.prog 138 := ent_of Try.func138 (by kernel_rfl) (by kernel_rfl)
theorem En139 : Ent Try.prog 139 := ent_of Try.func139 (by kernel_rfl) (by kernel_rfl)
theorem En140 : Ent Try.prog 140 := ent_of Try.func140 (by kernel_rfl) (by kernel_rfl)
theorem En141 : Ent Try.prog 141 := ent_of Try.func141 (by kernel_rfl) (by kernel_rfl)
theorem En142 : Ent Try.prog 142 := ent_of Try.func142 (by kernel_rfl) (by kernel_rfl)
theorem En143 : Ent Try.prog 143 := ent_of Try.func143 (by kernel_rfl) (by kernel_rfl)
theorem En144 : Ent Try.prog 144 := ent_of Try.func144 (by kernel_rfl) (by kernel_rfl)
theorem En145 : Ent Try.prog 145 := ent_of Try.func145 (by kernel_rfl) (by kernel_rfl)
theorem En146 : Ent Try.prog 146 := ent_of Try.func146 (by kernel_rfl) (by kernel_rfl)
theorem En147 : Ent Try.prog 147 := ent_of Try.func147 (by kernel_rfl) (by kernel_rfl)
theorem En148 : Ent Try.prog 148 := ent_of Try.func148 (by kernel_rfl) (by kernel_rfl)
end Go.Proofs.Ythjaopefoiploaa
