/-
  Closed facts on the types and the functions of this translation, each reckoned by the kernel. Made by a program of mine (gentab.py).
-/
import Derived.Test.YthjaopefoiploaaGreatMem2
import Derived.Test.YthjaopefoiploaaGreatChecked
namespace Go.Proofs.YthjaopefoiploaaGreat
open Go
theorem Sz1 : ∀ w, (sizeOf 1).run Tryz.prog w = .ok 1 w := fun w => by kernel_rfl
theorem Sc1 : Scal Tryz.prog 1 := fun w => ⟨by kernel_rfl, Sz1 w⟩
theorem Zr1 : ZeroT Tryz.prog 1 [.nilFunc] := ⟨.nilFunc, fun w => by kernel_rfl, rfl⟩
theorem Sz2 : ∀ w, (sizeOf 2).run Tryz.prog w = .ok 1 w := fun w => by kernel_rfl
theorem Sc2 : Scal Tryz.prog 2 := fun w => ⟨by kernel_rfl, Sz2 w⟩
theorem Zr2 : ZeroT Tryz.prog 2 [.int .i64 0] := ⟨.int .i64 0, fun w => by kernel_rfl, rfl⟩
theorem Sz3 : ∀ w, (sizeOf 3).run Tryz.prog w = .ok 1 w := fun w => by kernel_rfl
theorem Sc3 : Scal Tryz.prog 3 := fun w => ⟨by kernel_rfl, Sz3 w⟩
theorem Zr3 : ZeroT Tryz.prog 3 [.int .i64 0] := ⟨.int .i64 0, fun w => by kernel_rfl, rfl⟩
theorem Sz4 : ∀ w, (sizeOf 4).run Tryz.prog w = .ok 1 w := fun w => by kernel_rfl
theorem Sc4 : Scal Tryz.prog 4 := fun w => ⟨by kernel_rfl, Sz4 w⟩
theorem Zr4 : ZeroT Tryz.prog 4 [.bool false] := ⟨.bool false, fun w => by kernel_rfl, rfl⟩
theorem Sz5 : ∀ w, (sizeOf 5).run Tryz.prog w = .ok 1 w := fun w => by kernel_rfl
theorem Sc5 : Scal Tryz.prog 5 := fun w => ⟨by kernel_rfl, Sz5 w⟩
theorem Zr5 : ZeroT Tryz.prog 5 [.int .u8 0] := ⟨.int .u8 0, fun w => by kernel_rfl, rfl⟩
theorem Sz6 : ∀ w, (sizeOf 6).run Tryz.prog w = .ok 1 w := fun w => by kernel_rfl
theorem Sc6 : Scal Tryz.prog 6 := fun w => ⟨by kernel_rfl, Sz6 w⟩
theorem Zr6 : ZeroT Tryz.prog 6 [.int .u8 0] := ⟨.int .u8 0, fun w => by kernel_rfl, rfl⟩
theorem Sz7 : ∀ w, (sizeOf 7).run Tryz.prog w = .ok 4 w := fun w => by kernel_rfl
theorem Ag7 : Aggr Tryz.prog 7 4 := fun w => ⟨by kernel_rfl, Sz7 w⟩
theorem Fo7_0 : FOff Tryz.prog 7 0 0 := ⟨0, by kernel_rfl⟩
theorem Fo7_1 : FOff Tryz.prog 7 1 1 := ⟨0, by kernel_rfl⟩
theorem Fo7_2 : FOff Tryz.prog 7 2 2 := ⟨0, by kernel_rfl⟩
theorem Fo7_3 : FOff Tryz.prog 7 3 3 := ⟨0, by kernel_rfl⟩
theorem Pl7 : Places Tryz.prog 7 [(0, 1), (1, 1), (2, 1), (3, 1)] := ⟨_, Tryz.underlying7, fun w => by kernel_rfl⟩
theorem Zr7 : ZeroT Tryz.prog 7 [.int .i64 0, .int .i64 0, .bool false, .int .u8 0] := ⟨.agg #[.int .i64 0, .int .i64 0, .bool false, .int .u8 0], fun w => by kernel_rfl, rfl⟩
theorem Sz8 : ∀ w, (sizeOf 8).run Tryz.prog w = .ok 4 w := fun w => by kernel_rfl
theorem Ag8 : Aggr Tryz.prog 8 4 := fun w => ⟨by kernel_rfl, Sz8 w⟩
theorem Fo8_0 : FOff Tryz.prog 8 0 0 := ⟨0, by kernel_rfl⟩
theorem Fo8_1 : FOff Tryz.prog 8 1 1 := ⟨0, by kernel_rfl⟩
theorem Fo8_2 : FOff Tryz.prog 8 2 2 := ⟨0, by kernel_rfl⟩
theorem Fo8_3 : FOff Tryz.prog 8 3 3 := ⟨0, by kernel_rfl⟩
theorem Pl8 : Places Tryz.prog 8 [(0, 1), (1, 1), (2, 1), (3, 1)] := ⟨_, Tryz.underlying8, fun w => by kernel_rfl⟩
theorem Zr8 : ZeroT Tryz.prog 8 [.int .i64 0, .int .i64 0, .bool false, .int .u8 0] := ⟨.agg #[.int .i64 0, .int .i64 0, .bool false, .int .u8 0], fun w => by kernel_rfl, rfl⟩
theorem Sz9 : ∀ w, (sizeOf 9).run Tryz.prog w = .ok 1 w := fun w => by kernel_rfl
theorem Sc9 : Scal Tryz.prog 9 := fun w => ⟨by kernel_rfl, Sz9 w⟩
theorem Zr9 : ZeroT Tryz.prog 9 [.string ByteArray.empty] := ⟨.string ByteArray.empty, fun w => by kernel_rfl, rfl⟩
theorem Sz22 : ∀ w, (sizeOf 22).run Tryz.prog w = .ok 1 w := fun w => by kernel_rfl
theorem Sc22 : Scal Tryz.prog 22 := fun w => ⟨by kernel_rfl, Sz22 w⟩
theorem El22 : ElemT Tryz.prog 22 79 1 24 [.slice none 0 0] := elemT_of (by kernel_rfl)
theorem Is22 : IdxS Tryz.prog 22 79 1 := ⟨Tryz.underlying22, by kernel_rfl⟩
theorem Zr22 : ZeroT Tryz.prog 22 [.slice none 0 0] := ⟨.slice none 0 0, fun w => by kernel_rfl, rfl⟩
theorem Sz23 : ∀ w, (sizeOf 23).run Tryz.prog w = .ok 2 w := fun w => by kernel_rfl
theorem Ag23 : Aggr Tryz.prog 23 2 := fun w => ⟨by kernel_rfl, Sz23 w⟩
theorem Fo23_0 : FOff Tryz.prog 23 0 0 := ⟨0, by kernel_rfl⟩
theorem Fo23_1 : FOff Tryz.prog 23 1 1 := ⟨0, by kernel_rfl⟩
theorem Pl23 : Places Tryz.prog 23 [(0, 1), (1, 1)] := ⟨_, Tryz.underlying23, fun w => by kernel_rfl⟩
theorem Zr23 : ZeroT Tryz.prog 23 [.int .i64 0, .int .i64 0] := ⟨.agg #[.int .i64 0, .int .i64 0], fun w => by kernel_rfl, rfl⟩
theorem Sz24 : ∀ w, (sizeOf 24).run Tryz.prog w = .ok 2 w := fun w => by kernel_rfl
theorem Ag24 : Aggr Tryz.prog 24 2 := fun w => ⟨by kernel_rfl, Sz24 w⟩
theorem Fo24_0 : FOff Tryz.prog 24 0 0 := ⟨0, by kernel_rfl⟩
theorem Fo24_1 : FOff Tryz.prog 24 1 1 := ⟨0, by kernel_rfl⟩
theorem Pl24 : Places Tryz.prog 24 [(0, 1), (1, 1)] := ⟨_, Tryz.underlying24, fun w => by kernel_rfl⟩
theorem Zr24 : ZeroT Tryz.prog 24 [.int .i64 0, .int .i64 0] := ⟨.agg #[.int .i64 0, .int .i64 0], fun w => by kernel_rfl, rfl⟩
theorem Sz27 : ∀ w, (sizeOf 27).run Tryz.prog w = .ok 1 w := fun w => by kernel_rfl
theorem Sc27 : Scal Tryz.prog 27 := fun w => ⟨by kernel_rfl, Sz27 w⟩
theorem El27 : ElemT Tryz.prog 27 66 1 24 [.slice none 0 0] := elemT_of (by kernel_rfl)
theorem Is27 : IdxS Tryz.prog 27 66 1 := ⟨Tryz.underlying27, by kernel_rfl⟩
theorem Zr27 : ZeroT Tryz.prog 27 [.slice none 0 0] := ⟨.slice none 0 0, fun w => by kernel_rfl, rfl⟩
theorem Sz29 : ∀ w, (sizeOf 29).run Tryz.prog w = .ok 2 w := fun w => by kernel_rfl
theorem Ag29 : Aggr Tryz.prog 29 2 := fun w => ⟨by kernel_rfl, Sz29 w⟩
theorem Fo29_0 : FOff Tryz.prog 29 0 0 := ⟨0, by kernel_rfl⟩
theorem Fo29_1 : FOff Tryz.prog 29 1 1 := ⟨0, by kernel_rfl⟩
theorem Pl29 : Places Tryz.prog 29 [(0, 1), (1, 1)] := ⟨_, Tryz.underlying29, fun w => by kernel_rfl⟩
theorem Zr29 : ZeroT Tryz.prog 29 [.int .i64 0, .int .i64 0] := ⟨.agg #[.int .i64 0, .int .i64 0], fun w => by kernel_rfl, rfl⟩
theorem Sz33 : ∀ w, (sizeOf 33).run Tryz.prog w = .ok 1 w := fun w => by kernel_rfl
theorem Sc33 : Scal Tryz.prog 33 := fun w => ⟨by kernel_rfl, Sz33 w⟩
theorem El33 : ElemT Tryz.prog 33 88 4 40 [.int .i64 0, .int .i64 0, .int .i64 0, .string ByteArray.empty] := elemT_of (by kernel_rfl)
theorem Is33 : IdxS Tryz.prog 33 88 4 := ⟨Tryz.underlying33, by kernel_rfl⟩
theorem Zr33 : ZeroT Tryz.prog 33 [.slice none 0 0] := ⟨.slice none 0 0, fun w => by kernel_rfl, rfl⟩
theorem Sz35 : ∀ w, (sizeOf 35).run Tryz.prog w = .ok 1 w := fun w => by kernel_rfl
theorem Sc35 : Scal Tryz.prog 35 := fun w => ⟨by kernel_rfl, Sz35 w⟩
theorem El35 : ElemT Tryz.prog 35 2 1 8 [.int .i64 0] := elemT_of (by kernel_rfl)
theorem Is35 : IdxS Tryz.prog 35 2 1 := ⟨Tryz.underlying35, by kernel_rfl⟩
theorem Zr35 : ZeroT Tryz.prog 35 [.slice none 0 0] := ⟨.slice none 0 0, fun w => by kernel_rfl, rfl⟩
theorem Sz38 : ∀ w, (sizeOf 38).run Tryz.prog w = .ok 1 w := fun w => by kernel_rfl
theorem Sc38 : Scal Tryz.prog 38 := fun w => ⟨by kernel_rfl, Sz38 w⟩
theorem El38 : ElemT Tryz.prog 38 55 4 40 [.int .i64 0, .int .i64 0, .int .i64 0, .string ByteArray.empty] := elemT_of (by kernel_rfl)
theorem Is38 : IdxS Tryz.prog 38 55 4 := ⟨Tryz.underlying38, by kernel_rfl⟩
theorem Zr38 : ZeroT Tryz.prog 38 [.slice none 0 0] := ⟨.slice none 0 0, fun w => by kernel_rfl, rfl⟩
theorem Sz46 : ∀ w, (sizeOf 46).run Tryz.prog w = .ok 1 w := fun w => by kernel_rfl
theorem Sc46 : Scal Tryz.prog 46 := fun w => ⟨by kernel_rfl, Sz46 w⟩
theorem El46 : ElemT Tryz.prog 46 5 1 1 [.int .u8 0] := elemT_of (by kernel_rfl)
theorem Is46 : IdxS Tryz.prog 46 5 1 := ⟨Tryz.underlying46, by kernel_rfl⟩
theorem Zr46 : ZeroT Tryz.prog 46 [.slice none 0 0] := ⟨.slice none 0 0, fun w => by kernel_rfl, rfl⟩
theorem Sz51 : ∀ w, (sizeOf 51).run Tryz.prog w = .ok 1 w := fun w => by kernel_rfl
theorem Sc51 : Scal Tryz.prog 51 := fun w => ⟨by kernel_rfl, Sz51 w⟩
theorem El51 : ElemT Tryz.prog 51 9 1 16 [.string ByteArray.empty] := elemT_of (by kernel_rfl)
theorem Is51 : IdxS Tryz.prog 51 9 1 := ⟨Tryz.underlying51, by kernel_rfl⟩
theorem Zr51 : ZeroT Tryz.prog 51 [.slice none 0 0] := ⟨.slice none 0 0, fun w => by kernel_rfl, rfl⟩
theorem Sz54 : ∀ w, (sizeOf 54).run Tryz.prog w = .ok 4 w := fun w => by kernel_rfl
theorem Ag54 : Aggr Tryz.prog 54 4 := fun w => ⟨by kernel_rfl, Sz54 w⟩
theorem Fo54_0 : FOff Tryz.prog 54 0 0 := ⟨0, by kernel_rfl⟩
theorem Fo54_1 : FOff Tryz.prog 54 1 1 := ⟨1, by kernel_rfl⟩
theorem Fo54_2 : FOff Tryz.prog 54 2 3 := ⟨0, by kernel_rfl⟩
theorem Pl54 : Places Tryz.prog 54 [(0, 1), (1, 2), (3, 1)] := ⟨_, Tryz.underlying54, fun w => by kernel_rfl⟩
theorem Zr54 : ZeroT Tryz.prog 54 [.int .i64 0, .int .i64 0, .int .i64 0, .string ByteArray.empty] := ⟨.agg #[.int .i64 0, .int .i64 0, .int .i64 0, .string ByteArray.empty], fun w => by kernel_rfl, rfl⟩
theorem Sz55 : ∀ w, (sizeOf 55).run Tryz.prog w = .ok 4 w := fun w => by kernel_rfl
theorem Ag55 : Aggr Tryz.prog 55 4 := fun w => ⟨by kernel_rfl, Sz55 w⟩
theorem Fo55_0 : FOff Tryz.prog 55 0 0 := ⟨0, by kernel_rfl⟩
theorem Fo55_1 : FOff Tryz.prog 55 1 1 := ⟨1, by kernel_rfl⟩
theorem Fo55_2 : FOff Tryz.prog 55 2 3 := ⟨0, by kernel_rfl⟩
theorem Pl55 : Places Tryz.prog 55 [(0, 1), (1, 2), (3, 1)] := ⟨_, Tryz.underlying55, fun w => by kernel_rfl⟩
theorem Zr55 : ZeroT Tryz.prog 55 [.int .i64 0, .int .i64 0, .int .i64 0, .string ByteArray.empty] := ⟨.agg #[.int .i64 0, .int .i64 0, .int .i64 0, .string ByteArray.empty], fun w => by kernel_rfl, rfl⟩
theorem Sz56 : ∀ w, (sizeOf 56).run Tryz.prog w = .ok 4 w := fun w => by kernel_rfl
theorem Ag56 : Aggr Tryz.prog 56 4 := fun w => ⟨by kernel_rfl, Sz56 w⟩
theorem Fo56_0 : FOff Tryz.prog 56 0 0 := ⟨0, by kernel_rfl⟩
theorem Fo56_1 : FOff Tryz.prog 56 1 1 := ⟨0, by kernel_rfl⟩
theorem Fo56_2 : FOff Tryz.prog 56 2 2 := ⟨0, by kernel_rfl⟩
theorem Fo56_3 : FOff Tryz.prog 56 3 3 := ⟨0, by kernel_rfl⟩
theorem Pl56 : Places Tryz.prog 56 [(0, 1), (1, 1), (2, 1), (3, 1)] := ⟨_, Tryz.underlying56, fun w => by kernel_rfl⟩
theorem Zr56 : ZeroT Tryz.prog 56 [.int .i64 0, .int .i64 0, .int .i64 0, .int .i64 0] := ⟨.agg #[.int .i64 0, .int .i64 0, .int .i64 0, .int .i64 0], fun w => by kernel_rfl, rfl⟩
theorem Sz57 : ∀ w, (sizeOf 57).run Tryz.prog w = .ok 4 w := fun w => by kernel_rfl
theorem Ag57 : Aggr Tryz.prog 57 4 := fun w => ⟨by kernel_rfl, Sz57 w⟩
theorem Fo57_0 : FOff Tryz.prog 57 0 0 := ⟨0, by kernel_rfl⟩
theorem Fo57_1 : FOff Tryz.prog 57 1 1 := ⟨0, by kernel_rfl⟩
theorem Fo57_2 : FOff Tryz.prog 57 2 2 := ⟨0, by kernel_rfl⟩
theorem Fo57_3 : FOff Tryz.prog 57 3 3 := ⟨0, by kernel_rfl⟩
theorem Pl57 : Places Tryz.prog 57 [(0, 1), (1, 1), (2, 1), (3, 1)] := ⟨_, Tryz.underlying57, fun w => by kernel_rfl⟩
theorem Zr57 : ZeroT Tryz.prog 57 [.int .i64 0, .int .i64 0, .int .i64 0, .int .i64 0] := ⟨.agg #[.int .i64 0, .int .i64 0, .int .i64 0, .int .i64 0], fun w => by kernel_rfl, rfl⟩
theorem Sz59 : ∀ w, (sizeOf 59).run Tryz.prog w = .ok 4 w := fun w => by kernel_rfl
theorem Ag59 : Aggr Tryz.prog 59 4 := fun w => ⟨by kernel_rfl, Sz59 w⟩
theorem Fo59_0 : FOff Tryz.prog 59 0 0 := ⟨0, by kernel_rfl⟩
theorem Fo59_1 : FOff Tryz.prog 59 1 1 := ⟨0, by kernel_rfl⟩
theorem Fo59_2 : FOff Tryz.prog 59 2 2 := ⟨0, by kernel_rfl⟩
theorem Fo59_3 : FOff Tryz.prog 59 3 3 := ⟨0, by kernel_rfl⟩
theorem Pl59 : Places Tryz.prog 59 [(0, 1), (1, 1), (2, 1), (3, 1)] := ⟨_, Tryz.underlying59, fun w => by kernel_rfl⟩
theorem Zr59 : ZeroT Tryz.prog 59 [.int .i64 0, .int .i64 0, .int .i64 0, .int .i64 0] := ⟨.agg #[.int .i64 0, .int .i64 0, .int .i64 0, .int .i64 0], fun w => by kernel_rfl, rfl⟩
theorem Sz63 : ∀ w, (sizeOf 63).run Tryz.prog w = .ok 1 w := fun w => by kernel_rfl
theorem Sc63 : Scal Tryz.prog 63 := fun w => ⟨by kernel_rfl, Sz63 w⟩
theorem El63 : ElemT Tryz.prog 63 71 4 48 [.int .i64 0, .slice none 0 0, .int .i64 0, .int .i64 0] := elemT_of (by kernel_rfl)
theorem Is63 : IdxS Tryz.prog 63 71 4 := ⟨Tryz.underlying63, by kernel_rfl⟩
theorem Zr63 : ZeroT Tryz.prog 63 [.slice none 0 0] := ⟨.slice none 0 0, fun w => by kernel_rfl, rfl⟩
theorem Sz66 : ∀ w, (sizeOf 66).run Tryz.prog w = .ok 1 w := fun w => by kernel_rfl
theorem Sc66 : Scal Tryz.prog 66 := fun w => ⟨by kernel_rfl, Sz66 w⟩
theorem El66 : ElemT Tryz.prog 66 59 4 32 [.int .i64 0, .int .i64 0, .int .i64 0, .int .i64 0] := elemT_of (by kernel_rfl)
theorem Is66 : IdxS Tryz.prog 66 59 4 := ⟨Tryz.underlying66, by kernel_rfl⟩
theorem Zr66 : ZeroT Tryz.prog 66 [.slice none 0 0] := ⟨.slice none 0 0, fun w => by kernel_rfl, rfl⟩
theorem Sz70 : ∀ w, (sizeOf 70).run Tryz.prog w = .ok 4 w := fun w => by kernel_rfl
theorem Ag70 : Aggr Tryz.prog 70 4 := fun w => ⟨by kernel_rfl, Sz70 w⟩
theorem Fo70_0 : FOff Tryz.prog 70 0 0 := ⟨0, by kernel_rfl⟩
theorem Fo70_1 : FOff Tryz.prog 70 1 1 := ⟨0, by kernel_rfl⟩
theorem Fo70_2 : FOff Tryz.prog 70 2 2 := ⟨0, by kernel_rfl⟩
theorem Fo70_3 : FOff Tryz.prog 70 3 3 := ⟨0, by kernel_rfl⟩
theorem Pl70 : Places Tryz.prog 70 [(0, 1), (1, 1), (2, 1), (3, 1)] := ⟨_, Tryz.underlying70, fun w => by kernel_rfl⟩
theorem Zr70 : ZeroT Tryz.prog 70 [.int .i64 0, .slice none 0 0, .int .i64 0, .int .i64 0] := ⟨.agg #[.int .i64 0, .slice none 0 0, .int .i64 0, .int .i64 0], fun w => by kernel_rfl, rfl⟩
theorem Sz71 : ∀ w, (sizeOf 71).run Tryz.prog w = .ok 4 w := fun w => by kernel_rfl
theorem Ag71 : Aggr Tryz.prog 71 4 := fun w => ⟨by kernel_rfl, Sz71 w⟩
theorem Fo71_0 : FOff Tryz.prog 71 0 0 := ⟨0, by kernel_rfl⟩
theorem Fo71_1 : FOff Tryz.prog 71 1 1 := ⟨0, by kernel_rfl⟩
theorem Fo71_2 : FOff Tryz.prog 71 2 2 := ⟨0, by kernel_rfl⟩
theorem Fo71_3 : FOff Tryz.prog 71 3 3 := ⟨0, by kernel_rfl⟩
theorem Pl71 : Places Tryz.prog 71 [(0, 1), (1, 1), (2, 1), (3, 1)] := ⟨_, Tryz.underlying71, fun w => by kernel_rfl⟩
theorem Zr71 : ZeroT Tryz.prog 71 [.int .i64 0, .slice none 0 0, .int .i64 0, .int .i64 0] := ⟨.agg #[.int .i64 0, .slice none 0 0, .int .i64 0, .int .i64 0], fun w => by kernel_rfl, rfl⟩
theorem Sz79 : ∀ w, (sizeOf 79).run Tryz.prog w = .ok 1 w := fun w => by kernel_rfl
theorem Sc79 : Scal Tryz.prog 79 := fun w => ⟨by kernel_rfl, Sz79 w⟩
theorem El79 : ElemT Tryz.prog 79 57 4 32 [.int .i64 0, .int .i64 0, .int .i64 0, .int .i64 0] := elemT_of (by kernel_rfl)
theorem Is79 : IdxS Tryz.prog 79 57 4 := ⟨Tryz.underlying79, by kernel_rfl⟩
theorem Zr79 : ZeroT Tryz.prog 79 [.slice none 0 0] := ⟨.slice none 0 0, fun w => by kernel_rfl, rfl⟩
theorem Sz81 : ∀ w, (sizeOf 81).run Tryz.prog w = .ok 1 w := fun w => by kernel_rfl
theorem Sc81 : Scal Tryz.prog 81 := fun w => ⟨by kernel_rfl, Sz81 w⟩
theorem El81 : ElemT Tryz.prog 81 129 1 24 [.slice none 0 0] := elemT_of (by kernel_rfl)
theorem Is81 : IdxS Tryz.prog 81 129 1 := ⟨Tryz.underlying81, by kernel_rfl⟩
theorem Zr81 : ZeroT Tryz.prog 81 [.slice none 0 0] := ⟨.slice none 0 0, fun w => by kernel_rfl, rfl⟩
theorem Sz87 : ∀ w, (sizeOf 87).run Tryz.prog w = .ok 4 w := fun w => by kernel_rfl
theorem Ag87 : Aggr Tryz.prog 87 4 := fun w => ⟨by kernel_rfl, Sz87 w⟩
theorem Fo87_0 : FOff Tryz.prog 87 0 0 := ⟨0, by kernel_rfl⟩
theorem Fo87_1 : FOff Tryz.prog 87 1 1 := ⟨1, by kernel_rfl⟩
theorem Fo87_2 : FOff Tryz.prog 87 2 3 := ⟨0, by kernel_rfl⟩
theorem Pl87 : Places Tryz.prog 87 [(0, 1), (1, 2), (3, 1)] := ⟨_, Tryz.underlying87, fun w => by kernel_rfl⟩
theorem Zr87 : ZeroT Tryz.prog 87 [.int .i64 0, .int .i64 0, .int .i64 0, .string ByteArray.empty] := ⟨.agg #[.int .i64 0, .int .i64 0, .int .i64 0, .string ByteArray.empty], fun w => by kernel_rfl, rfl⟩
theorem Sz88 : ∀ w, (sizeOf 88).run Tryz.prog w = .ok 4 w := fun w => by kernel_rfl
theorem Ag88 : Aggr Tryz.prog 88 4 := fun w => ⟨by kernel_rfl, Sz88 w⟩
theorem Fo88_0 : FOff Tryz.prog 88 0 0 := ⟨0, by kernel_rfl⟩
theorem Fo88_1 : FOff Tryz.prog 88 1 1 := ⟨1, by kernel_rfl⟩
theorem Fo88_2 : FOff Tryz.prog 88 2 3 := ⟨0, by kernel_rfl⟩
theorem Pl88 : Places Tryz.prog 88 [(0, 1), (1, 2), (3, 1)] := ⟨_, Tryz.underlying88, fun w => by kernel_rfl⟩
theorem Zr88 : ZeroT Tryz.prog 88 [.int .i64 0, .int .i64 0, .int .i64 0, .string ByteArray.empty] := ⟨.agg #[.int .i64 0, .int .i64 0, .int .i64 0, .string ByteArray.empty], fun w => by kernel_rfl, rfl⟩
theorem Sz91 : ∀ w, (sizeOf 91).run Tryz.prog w = .ok 1 w := fun w => by kernel_rfl
theorem Sc91 : Scal Tryz.prog 91 := fun w => ⟨by kernel_rfl, Sz91 w⟩
theorem El91 : ElemT Tryz.prog 91 145 2 32 [.int .i64 0, .slice none 0 0] := elemT_of (by kernel_rfl)
theorem Is91 : IdxS Tryz.prog 91 145 2 := ⟨Tryz.underlying91, by kernel_rfl⟩
theorem Zr91 : ZeroT Tryz.prog 91 [.slice none 0 0] := ⟨.slice none 0 0, fun w => by kernel_rfl, rfl⟩
theorem Sz100 : ∀ w, (sizeOf 100).run Tryz.prog w = .ok 1 w := fun w => by kernel_rfl
theorem Sc100 : Scal Tryz.prog 100 := fun w => ⟨by kernel_rfl, Sz100 w⟩
theorem Zr100 : ZeroT Tryz.prog 100 [.pointer none] := ⟨.pointer none, fun w => by kernel_rfl, rfl⟩
theorem Sz104 : ∀ w, (sizeOf 104).run Tryz.prog w = .ok 1 w := fun w => by kernel_rfl
theorem Sc104 : Scal Tryz.prog 104 := fun w => ⟨by kernel_rfl, Sz104 w⟩
theorem Zr104 : ZeroT Tryz.prog 104 [.map none] := ⟨.map none, fun w => by kernel_rfl, rfl⟩
theorem Sz108 : ∀ w, (sizeOf 108).run Tryz.prog w = .ok 1 w := fun w => by kernel_rfl
theorem Sc108 : Scal Tryz.prog 108 := fun w => ⟨by kernel_rfl, Sz108 w⟩
theorem Zr108 : ZeroT Tryz.prog 108 [.map none] := ⟨.map none, fun w => by kernel_rfl, rfl⟩
theorem Sz113 : ∀ w, (sizeOf 113).run Tryz.prog w = .ok 6 w := fun w => by kernel_rfl
theorem Ag113 : Aggr Tryz.prog 113 6 := fun w => ⟨by kernel_rfl, Sz113 w⟩
theorem Fo113_0 : FOff Tryz.prog 113 0 0 := ⟨3, by kernel_rfl⟩
theorem Fo113_1 : FOff Tryz.prog 113 1 4 := ⟨0, by kernel_rfl⟩
theorem Fo113_2 : FOff Tryz.prog 113 2 5 := ⟨0, by kernel_rfl⟩
theorem Pl113 : Places Tryz.prog 113 [(0, 4), (4, 1), (5, 1)] := ⟨_, Tryz.underlying113, fun w => by kernel_rfl⟩
theorem Zr113 : ZeroT Tryz.prog 113 [.int .i64 0, .int .i64 0, .int .i64 0, .int .i64 0, .int .i64 0, .bool false] := ⟨.agg #[.int .i64 0, .int .i64 0, .int .i64 0, .int .i64 0, .int .i64 0, .bool false], fun w => by kernel_rfl, rfl⟩
theorem Sz114 : ∀ w, (sizeOf 114).run Tryz.prog w = .ok 6 w := fun w => by kernel_rfl
theorem Ag114 : Aggr Tryz.prog 114 6 := fun w => ⟨by kernel_rfl, Sz114 w⟩
theorem Fo114_0 : FOff Tryz.prog 114 0 0 := ⟨3, by kernel_rfl⟩
theorem Fo114_1 : FOff Tryz.prog 114 1 4 := ⟨0, by kernel_rfl⟩
theorem Fo114_2 : FOff Tryz.prog 114 2 5 := ⟨0, by kernel_rfl⟩
theorem Pl114 : Places Tryz.prog 114 [(0, 4), (4, 1), (5, 1)] := ⟨_, Tryz.underlying114, fun w => by kernel_rfl⟩
theorem Zr114 : ZeroT Tryz.prog 114 [.int .i64 0, .int .i64 0, .int .i64 0, .int .i64 0, .int .i64 0, .bool false] := ⟨.agg #[.int .i64 0, .int .i64 0, .int .i64 0, .int .i64 0, .int .i64 0, .bool false], fun w => by kernel_rfl, rfl⟩
theorem Sz118 : ∀ w, (sizeOf 118).run Tryz.prog w = .ok 1 w := fun w => by kernel_rfl
theorem Sc118 : Scal Tryz.prog 118 := fun w => ⟨by kernel_rfl, Sz118 w⟩
theorem El118 : ElemT Tryz.prog 118 114 6 48 [.int .i64 0, .int .i64 0, .int .i64 0, .int .i64 0, .int .i64 0, .bool false] := elemT_of (by kernel_rfl)
theorem Is118 : IdxS Tryz.prog 118 114 6 := ⟨Tryz.underlying118, by kernel_rfl⟩
theorem Zr118 : ZeroT Tryz.prog 118 [.slice none 0 0] := ⟨.slice none 0 0, fun w => by kernel_rfl, rfl⟩
theorem Sz127 : ∀ w, (sizeOf 127).run Tryz.prog w = .ok 1 w := fun w => by kernel_rfl
theorem Sc127 : Scal Tryz.prog 127 := fun w => ⟨by kernel_rfl, Sz127 w⟩
theorem El127 : ElemT Tryz.prog 127 132 2 32 [.int .i64 0, .slice none 0 0] := elemT_of (by kernel_rfl)
theorem Is127 : IdxS Tryz.prog 127 132 2 := ⟨Tryz.underlying127, by kernel_rfl⟩
theorem Zr127 : ZeroT Tryz.prog 127 [.slice none 0 0] := ⟨.slice none 0 0, fun w => by kernel_rfl, rfl⟩
theorem Sz128 : ∀ w, (sizeOf 128).run Tryz.prog w = .ok 1 w := fun w => by kernel_rfl
theorem Ag128 : Aggr Tryz.prog 128 1 := fun w => ⟨by kernel_rfl, Sz128 w⟩
theorem Fo128_0 : FOff Tryz.prog 128 0 0 := ⟨0, by kernel_rfl⟩
theorem Pl128 : Places Tryz.prog 128 [(0, 1)] := ⟨_, Tryz.underlying128, fun w => by kernel_rfl⟩
theorem Zr128 : ZeroT Tryz.prog 128 [.slice none 0 0] := ⟨.agg #[.slice none 0 0], fun w => by kernel_rfl, rfl⟩
theorem Sz129 : ∀ w, (sizeOf 129).run Tryz.prog w = .ok 1 w := fun w => by kernel_rfl
theorem Ag129 : Aggr Tryz.prog 129 1 := fun w => ⟨by kernel_rfl, Sz129 w⟩
theorem Fo129_0 : FOff Tryz.prog 129 0 0 := ⟨0, by kernel_rfl⟩
theorem Pl129 : Places Tryz.prog 129 [(0, 1)] := ⟨_, Tryz.underlying129, fun w => by kernel_rfl⟩
theorem Zr129 : ZeroT Tryz.prog 129 [.slice none 0 0] := ⟨.agg #[.slice none 0 0], fun w => by kernel_rfl, rfl⟩
theorem Sz131 : ∀ w, (sizeOf 131).run Tryz.prog w = .ok 2 w := fun w => by kernel_rfl
theorem Ag131 : Aggr Tryz.prog 131 2 := fun w => ⟨by kernel_rfl, Sz131 w⟩
theorem Fo131_0 : FOff Tryz.prog 131 0 0 := ⟨0, by kernel_rfl⟩
theorem Fo131_1 : FOff Tryz.prog 131 1 1 := ⟨0, by kernel_rfl⟩
theorem Pl131 : Places Tryz.prog 131 [(0, 1), (1, 1)] := ⟨_, Tryz.underlying131, fun w => by kernel_rfl⟩
theorem Zr131 : ZeroT Tryz.prog 131 [.int .i64 0, .slice none 0 0] := ⟨.agg #[.int .i64 0, .slice none 0 0], fun w => by kernel_rfl, rfl⟩
theorem Sz132 : ∀ w, (sizeOf 132).run Tryz.prog w = .ok 2 w := fun w => by kernel_rfl
theorem Ag132 : Aggr Tryz.prog 132 2 := fun w => ⟨by kernel_rfl, Sz132 w⟩
theorem Fo132_0 : FOff Tryz.prog 132 0 0 := ⟨0, by kernel_rfl⟩
theorem Fo132_1 : FOff Tryz.prog 132 1 1 := ⟨0, by kernel_rfl⟩
theorem Pl132 : Places Tryz.prog 132 [(0, 1), (1, 1)] := ⟨_, Tryz.underlying132, fun w => by kernel_rfl⟩
theorem Zr132 : ZeroT Tryz.prog 132 [.int .i64 0, .slice none 0 0] := ⟨.agg #[.int .i64 0, .slice none 0 0], fun w => by kernel_rfl, rfl⟩
theorem Sz134 : ∀ w, (sizeOf 134).run Tryz.prog w = .ok 1 w := fun w => by kernel_rfl
theorem Sc134 : Scal Tryz.prog 134 := fun w => ⟨by kernel_rfl, Sz134 w⟩
theorem Zr134 : ZeroT Tryz.prog 134 [.nilFunc] := ⟨.nilFunc, fun w => by kernel_rfl, rfl⟩
theorem Sz135 : ∀ w, (sizeOf 135).run Tryz.prog w = .ok 1 w := fun w => by kernel_rfl
theorem Sc135 : Scal Tryz.prog 135 := fun w => ⟨by kernel_rfl, Sz135 w⟩
theorem Zr135 : ZeroT Tryz.prog 135 [.nilFunc] := ⟨.nilFunc, fun w => by kernel_rfl, rfl⟩
theorem Sz137 : ∀ w, (sizeOf 137).run Tryz.prog w = .ok 1 w := fun w => by kernel_rfl
theorem Sc137 : Scal Tryz.prog 137 := fun w => ⟨by kernel_rfl, Sz137 w⟩
theorem Zr137 : ZeroT Tryz.prog 137 [.nilFunc] := ⟨.nilFunc, fun w => by kernel_rfl, rfl⟩
theorem Sz138 : ∀ w, (sizeOf 138).run Tryz.prog w = .ok 1 w := fun w => by kernel_rfl
theorem Sc138 : Scal Tryz.prog 138 := fun w => ⟨by kernel_rfl, Sz138 w⟩
theorem Zr138 : ZeroT Tryz.prog 138 [.nilFunc] := ⟨.nilFunc, fun w => by kernel_rfl, rfl⟩
theorem Sz139 : ∀ w, (sizeOf 139).run Tryz.prog w = .ok 1 w := fun w => by kernel_rfl
theorem Sc139 : Scal Tryz.prog 139 := fun w => ⟨by kernel_rfl, Sz139 w⟩
theorem El139 : ElemT Tryz.prog 139 142 1 24 [.slice none 0 0] := elemT_of (by kernel_rfl)
theorem Is139 : IdxS Tryz.prog 139 142 1 := ⟨Tryz.underlying139, by kernel_rfl⟩
theorem Zr139 : ZeroT Tryz.prog 139 [.slice none 0 0] := ⟨.slice none 0 0, fun w => by kernel_rfl, rfl⟩
theorem Sz142 : ∀ w, (sizeOf 142).run Tryz.prog w = .ok 1 w := fun w => by kernel_rfl
theorem Sc142 : Scal Tryz.prog 142 := fun w => ⟨by kernel_rfl, Sz142 w⟩
theorem El142 : ElemT Tryz.prog 142 4 1 1 [.bool false] := elemT_of (by kernel_rfl)
theorem Is142 : IdxS Tryz.prog 142 4 1 := ⟨Tryz.underlying142, by kernel_rfl⟩
theorem Zr142 : ZeroT Tryz.prog 142 [.slice none 0 0] := ⟨.slice none 0 0, fun w => by kernel_rfl, rfl⟩
theorem Sz144 : ∀ w, (sizeOf 144).run Tryz.prog w = .ok 2 w := fun w => by kernel_rfl
theorem Ag144 : Aggr Tryz.prog 144 2 := fun w => ⟨by kernel_rfl, Sz144 w⟩
theorem Fo144_0 : FOff Tryz.prog 144 0 0 := ⟨0, by kernel_rfl⟩
theorem Fo144_1 : FOff Tryz.prog 144 1 1 := ⟨0, by kernel_rfl⟩
theorem Pl144 : Places Tryz.prog 144 [(0, 1), (1, 1)] := ⟨_, Tryz.underlying144, fun w => by kernel_rfl⟩
theorem Zr144 : ZeroT Tryz.prog 144 [.int .i64 0, .slice none 0 0] := ⟨.agg #[.int .i64 0, .slice none 0 0], fun w => by kernel_rfl, rfl⟩
theorem Sz145 : ∀ w, (sizeOf 145).run Tryz.prog w = .ok 2 w := fun w => by kernel_rfl
theorem Ag145 : Aggr Tryz.prog 145 2 := fun w => ⟨by kernel_rfl, Sz145 w⟩
theorem Fo145_0 : FOff Tryz.prog 145 0 0 := ⟨0, by kernel_rfl⟩
theorem Fo145_1 : FOff Tryz.prog 145 1 1 := ⟨0, by kernel_rfl⟩
theorem Pl145 : Places Tryz.prog 145 [(0, 1), (1, 1)] := ⟨_, Tryz.underlying145, fun w => by kernel_rfl⟩
theorem Zr145 : ZeroT Tryz.prog 145 [.int .i64 0, .slice none 0 0] := ⟨.agg #[.int .i64 0, .slice none 0 0], fun w => by kernel_rfl, rfl⟩
theorem Sz152 : ∀ w, (sizeOf 152).run Tryz.prog w = .ok 3 w := fun w => by kernel_rfl
theorem Ag152 : Aggr Tryz.prog 152 3 := fun w => ⟨by kernel_rfl, Sz152 w⟩
theorem Fo152_0 : FOff Tryz.prog 152 0 0 := ⟨0, by kernel_rfl⟩
theorem Fo152_1 : FOff Tryz.prog 152 1 1 := ⟨0, by kernel_rfl⟩
theorem Fo152_2 : FOff Tryz.prog 152 2 2 := ⟨0, by kernel_rfl⟩
theorem Pl152 : Places Tryz.prog 152 [(0, 1), (1, 1), (2, 1)] := ⟨_, Tryz.underlying152, fun w => by kernel_rfl⟩
theorem Zr152 : ZeroT Tryz.prog 152 [.slice none 0 0, .int .i64 0, .int .i64 0] := ⟨.agg #[.slice none 0 0, .int .i64 0, .int .i64 0], fun w => by kernel_rfl, rfl⟩
theorem Sz153 : ∀ w, (sizeOf 153).run Tryz.prog w = .ok 3 w := fun w => by kernel_rfl
theorem Ag153 : Aggr Tryz.prog 153 3 := fun w => ⟨by kernel_rfl, Sz153 w⟩
theorem Fo153_0 : FOff Tryz.prog 153 0 0 := ⟨0, by kernel_rfl⟩
theorem Fo153_1 : FOff Tryz.prog 153 1 1 := ⟨0, by kernel_rfl⟩
theorem Fo153_2 : FOff Tryz.prog 153 2 2 := ⟨0, by kernel_rfl⟩
theorem Pl153 : Places Tryz.prog 153 [(0, 1), (1, 1), (2, 1)] := ⟨_, Tryz.underlying153, fun w => by kernel_rfl⟩
theorem Zr153 : ZeroT Tryz.prog 153 [.slice none 0 0, .int .i64 0, .int .i64 0] := ⟨.agg #[.slice none 0 0, .int .i64 0, .int .i64 0], fun w => by kernel_rfl, rfl⟩
theorem Sz162 : ∀ w, (sizeOf 162).run Tryz.prog w = .ok 1 w := fun w => by kernel_rfl
theorem Sc162 : Scal Tryz.prog 162 := fun w => ⟨by kernel_rfl, Sz162 w⟩
theorem Zr162 : ZeroT Tryz.prog 162 [.int .u64 0] := ⟨.int .u64 0, fun w => by kernel_rfl, rfl⟩
theorem Sz167 : ∀ w, (sizeOf 167).run Tryz.prog w = .ok 1 w := fun w => by kernel_rfl
theorem Sc167 : Scal Tryz.prog 167 := fun w => ⟨by kernel_rfl, Sz167 w⟩
theorem Zr167 : ZeroT Tryz.prog 167 [.nilFunc] := ⟨.nilFunc, fun w => by kernel_rfl, rfl⟩
theorem Sz168 : ∀ w, (sizeOf 168).run Tryz.prog w = .ok 1 w := fun w => by kernel_rfl
theorem Sc168 : Scal Tryz.prog 168 := fun w => ⟨by kernel_rfl, Sz168 w⟩
theorem Zr168 : ZeroT Tryz.prog 168 [.pointer none] := ⟨.pointer none, fun w => by kernel_rfl, rfl⟩
theorem Sz176 : ∀ w, (sizeOf 176).run Tryz.prog w = .ok 1 w := fun w => by kernel_rfl
theorem Sc176 : Scal Tryz.prog 176 := fun w => ⟨by kernel_rfl, Sz176 w⟩
theorem El176 : ElemT Tryz.prog 176 3 1 8 [.int .i64 0] := elemT_of (by kernel_rfl)
theorem Is176 : IdxS Tryz.prog 176 3 1 := ⟨Tryz.underlying176, by kernel_rfl⟩
theorem Zr176 : ZeroT Tryz.prog 176 [.slice none 0 0] := ⟨.slice none 0 0, fun w => by kernel_rfl, rfl⟩
theorem Sz182 : ∀ w, (sizeOf 182).run Tryz.prog w = .ok 1 w := fun w => by kernel_rfl
theorem Sc182 : Scal Tryz.prog 182 := fun w => ⟨by kernel_rfl, Sz182 w⟩
theorem Zr182 : ZeroT Tryz.prog 182 [.nilFunc] := ⟨.nilFunc, fun w => by kernel_rfl, rfl⟩
theorem Sz186 : ∀ w, (sizeOf 186).run Tryz.prog w = .ok 1 w := fun w => by kernel_rfl
theorem Sc186 : Scal Tryz.prog 186 := fun w => ⟨by kernel_rfl, Sz186 w⟩
theorem El186 : ElemT Tryz.prog 186 29 2 16 [.int .i64 0, .int .i64 0] := elemT_of (by kernel_rfl)
theorem Is186 : IdxS Tryz.prog 186 29 2 := ⟨Tryz.underlying186, by kernel_rfl⟩
theorem Zr186 : ZeroT Tryz.prog 186 [.slice none 0 0] := ⟨.slice none 0 0, fun w => by kernel_rfl, rfl⟩
theorem Sz197 : ∀ w, (sizeOf 197).run Tryz.prog w = .ok 1 w := fun w => by kernel_rfl
theorem Sc197 : Scal Tryz.prog 197 := fun w => ⟨by kernel_rfl, Sz197 w⟩
theorem Zr197 : ZeroT Tryz.prog 197 [.int .i64 0] := ⟨.int .i64 0, fun w => by kernel_rfl, rfl⟩
theorem Sz205 : ∀ w, (sizeOf 205).run Tryz.prog w = .ok 1 w := fun w => by kernel_rfl
theorem Sc205 : Scal Tryz.prog 205 := fun w => ⟨by kernel_rfl, Sz205 w⟩
theorem Zr205 : ZeroT Tryz.prog 205 [.int .u32 0] := ⟨.int .u32 0, fun w => by kernel_rfl, rfl⟩
theorem Sz207 : ∀ w, (sizeOf 207).run Tryz.prog w = .ok 1 w := fun w => by kernel_rfl
theorem Sc207 : Scal Tryz.prog 207 := fun w => ⟨by kernel_rfl, Sz207 w⟩
theorem Zr207 : ZeroT Tryz.prog 207 [.int .u64 0] := ⟨.int .u64 0, fun w => by kernel_rfl, rfl⟩
theorem Sz216 : ∀ w, (sizeOf 216).run Tryz.prog w = .ok 80 w := fun w => by kernel_rfl
theorem Ag216 : Aggr Tryz.prog 216 80 := fun w => ⟨by kernel_rfl, Sz216 w⟩
theorem Ia216 : IdxA Tryz.prog 216 80 1 := ⟨4, Tryz.underlying216, by kernel_rfl⟩
theorem Sz217 : ∀ w, (sizeOf 217).run Tryz.prog w = .ok 6400 w := fun w => by kernel_rfl
theorem Ag217 : Aggr Tryz.prog 217 6400 := fun w => ⟨by kernel_rfl, Sz217 w⟩
theorem Ia217 : IdxA Tryz.prog 217 80 80 := ⟨216, Tryz.underlying217, by kernel_rfl⟩
theorem Sz218 : ∀ w, (sizeOf 218).run Tryz.prog w = .ok 6400 w := fun w => by kernel_rfl
theorem Ag218 : Aggr Tryz.prog 218 6400 := fun w => ⟨by kernel_rfl, Sz218 w⟩
theorem Ia218 : IdxA Tryz.prog 218 80 80 := ⟨216, Tryz.underlying218, by kernel_rfl⟩
theorem Sz228 : ∀ w, (sizeOf 228).run Tryz.prog w = .ok 1 w := fun w => by kernel_rfl
theorem Sc228 : Scal Tryz.prog 228 := fun w => ⟨by kernel_rfl, Sz228 w⟩
theorem Zr228 : ZeroT Tryz.prog 228 [.int .u64 0] := ⟨.int .u64 0, fun w => by kernel_rfl, rfl⟩
theorem Sz232 : ∀ w, (sizeOf 232).run Tryz.prog w = .ok 1 w := fun w => by kernel_rfl
theorem Sc232 : Scal Tryz.prog 232 := fun w => ⟨by kernel_rfl, Sz232 w⟩
theorem Zr232 : ZeroT Tryz.prog 232 [.pointer none] := ⟨.pointer none, fun w => by kernel_rfl, rfl⟩
theorem Sz238 : ∀ w, (sizeOf 238).run Tryz.prog w = .ok 1 w := fun w => by kernel_rfl
theorem Sc238 : Scal Tryz.prog 238 := fun w => ⟨by kernel_rfl, Sz238 w⟩
theorem Zr238 : ZeroT Tryz.prog 238 [.nilFunc] := ⟨.nilFunc, fun w => by kernel_rfl, rfl⟩
theorem Sz242 : ∀ w, (sizeOf 242).run Tryz.prog w = .ok 1 w := fun w => by kernel_rfl
theorem Sc242 : Scal Tryz.prog 242 := fun w => ⟨by kernel_rfl, Sz242 w⟩
theorem Zr242 : ZeroT Tryz.prog 242 [.nilFunc] := ⟨.nilFunc, fun w => by kernel_rfl, rfl⟩
theorem Sz247 : ∀ w, (sizeOf 247).run Tryz.prog w = .ok 2 w := fun w => by kernel_rfl
theorem Ag247 : Aggr Tryz.prog 247 2 := fun w => ⟨by kernel_rfl, Sz247 w⟩
theorem Ia247 : IdxA Tryz.prog 247 2 1 := ⟨3, Tryz.underlying247, by kernel_rfl⟩
theorem Sz248 : ∀ w, (sizeOf 248).run Tryz.prog w = .ok 1 w := fun w => by kernel_rfl
theorem Sc248 : Scal Tryz.prog 248 := fun w => ⟨by kernel_rfl, Sz248 w⟩
theorem El248 : ElemT Tryz.prog 248 247 2 16 [.int .i64 0, .int .i64 0] := elemT_of (by kernel_rfl)
theorem Is248 : IdxS Tryz.prog 248 247 2 := ⟨Tryz.underlying248, by kernel_rfl⟩
theorem Zr248 : ZeroT Tryz.prog 248 [.slice none 0 0] := ⟨.slice none 0 0, fun w => by kernel_rfl, rfl⟩
theorem En3 : Ent Tryz.prog 3 := ent_of Tryz.func3 (by kernel_rfl) (by kernel_rfl)
theorem En4 : Ent Tryz.prog 4 := ent_of Tryz.func4 (by kernel_rfl) (by kernel_rfl)
theorem En5 : Ent Tryz.prog 5 := ent_of Tryz.func5 (by kernel_rfl) (by kernel_rfl)
theorem En6 : Ent Tryz.prog 6 := ent_of Tryz.func6 (by kernel_rfl) (by kernel_rfl)
theorem En7 : Ent Tryz.prog 7 := ent_of Tryz.func7 (by kernel_rfl) (by kernel_rfl)
theorem En8 : Ent Tryz.prog 8 := ent_of Tryz.func8 (by kernel_rfl) (by kernel_rfl)
theorem En9 : Ent Tryz.prog 9 := ent_of Tryz.func9 (by kernel_rfl) (by kernel_rfl)
theorem En10 : Ent Tryz.prog 10 := ent_of Tryz.func10 (by kernel_rfl) (by kernel_rfl)
theorem En11 : Ent Tryz.prog 11 := ent_of Tryz.func11 (by kernel_rfl) (by kernel_rfl)
theorem En12 : Ent Tryz.prog 12 := ent_of Tryz.func12 (by kernel_rfl) (by kernel_rfl)
theorem En13 : Ent Tryz.prog 13 := ent_of Tryz.func13 (by kernel_rfl) (by kernel_rfl)
theorem En14 : Ent Tryz.prog 14 := ent_of Tryz.func14 (by kernel_rfl) (by kernel_rfl)
theorem En15 : Ent Tryz.prog 15 := ent_of Tryz.func15 (by kernel_rfl) (by kernel_rfl)
theorem En16 : Ent Tryz.prog 16 := ent_of Tryz.func16 (by kernel_rfl) (by kernel_rfl)
theorem En17 : Ent Tryz.prog 17 := ent_of Tryz.func17 (by kernel_rfl) (by kernel_rfl)
theorem En18 : Ent Tryz.prog 18 := ent_of Tryz.func18 (by kernel_rfl) (by kernel_rfl)
theorem En19 : Ent Tryz.prog 19 := ent_of Tryz.func19 (by kernel_rfl) (by kernel_rfl)
theorem En20 : Ent Tryz.prog 20 := ent_of Tryz.func20 (by kernel_rfl) (by kernel_rfl)
theorem En21 : Ent Tryz.prog 21 := ent_of Tryz.func21 (by kernel_rfl) (by kernel_rfl)
theorem En22 : Ent Tryz.prog 22 := ent_of Tryz.func22 (by kernel_rfl) (by kernel_rfl)
theorem En23 : Ent Tryz.prog 23 := ent_of Tryz.func23 (by kernel_rfl) (by kernel_rfl)
theorem En24 : Ent Tryz.prog 24 := ent_of Tryz.func24 (by kernel_rfl) (by kernel_rfl)
theorem En25 : Ent Tryz.prog 25 := ent_of Tryz.func25 (by kernel_rfl) (by kernel_rfl)
theorem En26 : Ent Tryz.prog 26 := ent_of Tryz.func26 (by kernel_rfl) (by kernel_rfl)
theorem En27 : Ent Tryz.prog 27 := ent_of Tryz.func27 (by kernel_rfl) (by kernel_rfl)
theorem En28 : Ent Tryz.prog 28 := ent_of Tryz.func28 (by kernel_rfl) (by kernel_rfl)
theorem En29 : Ent Tryz.prog 29 := ent_of Tryz.func29 (by kernel_rfl) (by kernel_rfl)
theorem En30 : Ent Tryz.prog 30 := ent_of Tryz.func30 (by kernel_rfl) (by kernel_rfl)
theorem En31 : Ent Tryz.prog 31 := ent_of Tryz.func31 (by kernel_rfl) (by kernel_rfl)
theorem En32 : Ent Tryz.prog 32 := ent_of Tryz.func32 (by kernel_rfl) (by kernel_rfl)
theorem En33 : Ent Tryz.prog 33 := ent_of Tryz.func33 (by kernel_rfl) (by kernel_rfl)
theorem En34 : Ent Tryz.prog 34 := ent_of Tryz.func34 (by kernel_rfl) (by kernel_rfl)
theorem En35 : Ent Tryz.prog 35 := ent_of Tryz.func35 (by kernel_rfl) (by kernel_rfl)
theorem En36 : Ent Tryz.prog 36 := ent_of Tryz.func36 (by kernel_rfl) (by kernel_rfl)
theorem En37 : Ent Tryz.prog 37 := ent_of Tryz.func37 (by kernel_rfl) (by kernel_rfl)
theorem En38 : Ent Tryz.prog 38 := ent_of Tryz.func38 (by kernel_rfl) (by kernel_rfl)
theorem En39 : Ent Tryz.prog 39 := ent_of Tryz.func39 (by kernel_rfl) (by kernel_rfl)
theorem En40 : Ent Tryz.prog 40 := ent_of Tryz.func40 (by kernel_rfl) (by kernel_rfl)
theorem En41 : Ent Tryz.prog 41 := ent_of Tryz.func41 (by kernel_rfl) (by kernel_rfl)
theorem En42 : Ent Tryz.prog 42 := ent_of Tryz.func42 (by kernel_rfl) (by kernel_rfl)
theorem En43 : Ent Tryz.prog 43 := ent_of Tryz.func43 (by kernel_rfl) (by kernel_rfl)
theorem En44 : Ent Tryz.prog 44 := ent_of Tryz.func44 (by kernel_rfl) (by kernel_rfl)
theorem En45 : Ent Tryz.prog 45 := ent_of Tryz.func45 (by kernel_rfl) (by kernel_rfl)
theorem En46 : Ent Tryz.prog 46 := ent_of Tryz.func46 (by kernel_rfl) (by kernel_rfl)
theorem En47 : Ent Tryz.prog 47 := ent_of Tryz.func47 (by kernel_rfl) (by kernel_rfl)
theorem En48 : Ent Tryz.prog 48 := ent_of Tryz.func48 (by kernel_rfl) (by kernel_rfl)
theorem En49 : Ent Tryz.prog 49 := ent_of Tryz.func49 (by kernel_rfl) (by kernel_rfl)
theorem En50 : Ent Tryz.prog 50 := ent_of Tryz.func50 (by kernel_rfl) (by kernel_rfl)
theorem En51 : Ent Tryz.prog 51 := ent_of Tryz.func51 (by kernel_rfl) (by kernel_rfl)
theorem En52 : Ent Tryz.prog 52 := ent_of Tryz.func52 (by kernel_rfl) (by kernel_rfl)
theorem En53 : Ent Tryz.prog 53 := ent_of Tryz.func53 (by kernel_rfl) (by kernel_rfl)
theorem En54 : Ent Tryz.prog 54 := ent_of Tryz.func54 (by kernel_rfl) (by kernel_rfl)
theorem En55 : Ent Tryz.prog 55 := ent_of Tryz.func55 (by kernel_rfl) (by kernel_rfl)
theorem En56 : Ent Tryz.prog 56 := ent_of Tryz.func56 (by kernel_rfl) (by kernel_rfl)
theorem En57 : Ent Tryz.prog 57 := ent_of Tryz.func57 (by kernel_rfl) (by kernel_rfl)
theorem En58 : Ent Tryz.prog 58 := ent_of Tryz.func58 (by kernel_rfl) (by kernel_rfl)
theorem En59 : Ent Tryz.prog 59 := ent_of Tryz.func59 (by kernel_rfl) (by kernel_rfl)
theorem En60 : Ent Tryz.prog 60 := ent_of Tryz.func60 (by kernel_rfl) (by kernel_rfl)
theorem En61 : Ent Tryz.prog 61 := ent_of Tryz.func61 (by kernel_rfl) (by kernel_rfl)
theorem En62 : Ent Tryz.prog 62 := ent_of Tryz.func62 (by kernel_rfl) (by kernel_rfl)
theorem En63 : Ent Tryz.prog 63 := ent_of Tryz.func63 (by kernel_rfl) (by kernel_rfl)
theorem En64 : Ent Tryz.prog 64 := ent_of Tryz.func64 (by kernel_rfl) (by kernel_rfl)
theorem En65 : Ent Tryz.prog 65 := ent_of Tryz.func65 (by kernel_rfl) (by kernel_rfl)
theorem En66 : Ent Tryz.prog 66 := ent_of Tryz.func66 (by kernel_rfl) (by kernel_rfl)
theorem En67 : Ent Tryz.prog 67 := ent_of Tryz.func67 (by kernel_rfl) (by kernel_rfl)
theorem En68 : Ent Tryz.prog 68 := ent_of Tryz.func68 (by kernel_rfl) (by kernel_rfl)
theorem En69 : Ent Tryz.prog 69 := ent_of Tryz.func69 (by kernel_rfl) (by kernel_rfl)
theorem En70 : Ent Tryz.prog 70 := ent_of Tryz.func70 (by kernel_rfl) (by kernel_rfl)
theorem En71 : Ent Tryz.prog 71 := ent_of Tryz.func71 (by kernel_rfl) (by kernel_rfl)
theorem En72 : Ent Tryz.prog 72 := ent_of Tryz.func72 (by kernel_rfl) (by kernel_rfl)
theorem En73 : Ent Tryz.prog 73 := ent_of Tryz.func73 (by kernel_rfl) (by kernel_rfl)
theorem En74 : Ent Tryz.prog 74 := ent_of Tryz.func74 (by kernel_rfl) (by kernel_rfl)
theorem En75 : Ent Tryz.prog 75 := ent_of Tryz.func75 (by kernel_rfl) (by kernel_rfl)
theorem En76 : Ent Tryz.prog 76 := ent_of Tryz.func76 (by kernel_rfl) (by kernel_rfl)
theorem En77 : Ent Tryz.prog 77 := ent_of Tryz.func77 (by kernel_rfl) (by kernel_rfl)
theorem En78 : Ent Tryz.prog 78 := ent_of Tryz.func78 (by kernel_rfl) (by kernel_rfl)
theorem En79 : Ent Tryz.prog 79 := ent_of Tryz.func79 (by kernel_rfl) (by kernel_rfl)
theorem En80 : Ent Tryz.prog 80 := ent_of Tryz.func80 (by kernel_rfl) (by kernel_rfl)
theorem En81 : Ent Tryz.prog 81 := ent_of Tryz.func81 (by kernel_rfl) (by kernel_rfl)
theorem En82 : Ent Tryz.prog 82 := ent_of Tryz.func82 (by kernel_rfl) (by kernel_rfl)
theorem En83 : Ent Tryz.prog 83 := ent_of Tryz.func83 (by kernel_rfl) (by kernel_rfl)
theorem En84 : Ent Tryz.prog 84 := ent_of Tryz.func84 (by kernel_rfl) (by kernel_rfl)
theorem En85 : Ent Tryz.prog 85 := ent_of Tryz.func85 (by kernel_rfl) (by kernel_rfl)
theorem En86 : Ent Tryz.prog 86 := ent_of Tryz.func86 (by kernel_rfl) (by kernel_rfl)
theorem En87 : Ent Tryz.prog 87 := ent_of Tryz.func87 (by kernel_rfl) (by kernel_rfl)
theorem En88 : Ent Tryz.prog 88 := ent_of Tryz.func88 (by kernel_rfl) (by kernel_rfl)
theorem En89 : Ent Tryz.prog 89 := ent_of Tryz.func89 (by kernel_rfl) (by kernel_rfl)
theorem En90 : Ent Tryz.prog 90 := ent_of Tryz.func90 (by kernel_rfl) (by kernel_rfl)
theorem En91 : Ent Tryz.prog 91 := ent_of Tryz.func91 (by kernel_rfl) (by kernel_rfl)
theorem En92 : Ent Tryz.prog 92 := ent_of Tryz.func92 (by kernel_rfl) (by kernel_rfl)
theorem En93 : Ent Tryz.prog 93 := ent_of Tryz.func93 (by kernel_rfl) (by kernel_rfl)
theorem En94 : Ent Tryz.prog 94 := ent_of Tryz.func94 (by kernel_rfl) (by kernel_rfl)
theorem En95 : Ent Tryz.prog 95 := ent_of Tryz.func95 (by kernel_rfl) (by kernel_rfl)
theorem En96 : Ent Tryz.prog 96 := ent_of Tryz.func96 (by kernel_rfl) (by kernel_rfl)
theorem En97 : Ent Tryz.prog 97 := ent_of Tryz.func97 (by kernel_rfl) (by kernel_rfl)
theorem En98 : Ent Tryz.prog 98 := ent_of Tryz.func98 (by kernel_rfl) (by kernel_rfl)
theorem En99 : Ent Tryz.prog 99 := ent_of Tryz.func99 (by kernel_rfl) (by kernel_rfl)
theorem En100 : Ent Tryz.prog 100 := ent_of Tryz.func100 (by kernel_rfl) (by kernel_rfl)
theorem En101 : Ent Tryz.prog 101 := ent_of Tryz.func101 (by kernel_rfl) (by kernel_rfl)
theorem En102 : Ent Tryz.prog 102 := ent_of Tryz.func102 (by kernel_rfl) (by kernel_rfl)
theorem En103 : Ent Tryz.prog 103 := ent_of Tryz.func103 (by kernel_rfl) (by kernel_rfl)
theorem En104 : Ent Tryz.prog 104 := ent_of Tryz.func104 (by kernel_rfl) (by kernel_rfl)
theorem En105 : Ent Tryz.prog 105 := ent_of Tryz.func105 (by kernel_rfl) (by kernel_rfl)
theorem En106 : Ent Tryz.prog 106 := ent_of Tryz.func106 (by kernel_rfl) (by kernel_rfl)
theorem En107 : Ent Tryz.prog 107 := ent_of Tryz.func107 (by kernel_rfl) (by kernel_rfl)
theorem En108 : Ent Tryz.prog 108 := ent_of Tryz.func108 (by kernel_rfl) (by kernel_rfl)
theorem En109 : Ent Tryz.prog 109 := ent_of Tryz.func109 (by kernel_rfl) (by kernel_rfl)
theorem En110 : Ent Tryz.prog 110 := ent_of Tryz.func110 (by kernel_rfl) (by kernel_rfl)
theorem En111 : Ent Tryz.prog 111 := ent_of Tryz.func111 (by kernel_rfl) (by kernel_rfl)
theorem En112 : Ent Tryz.prog 112 := ent_of Tryz.func112 (by kernel_rfl) (by kernel_rfl)
theorem En113 : Ent Tryz.prog 113 := ent_of Tryz.func113 (by kernel_rfl) (by kernel_rfl)
theorem En114 : Ent Tryz.prog 114 := ent_of Tryz.func114 (by kernel_rfl) (by kernel_rfl)
theorem En115 : Ent Tryz.prog 115 := ent_of Tryz.func115 (by kernel_rfl) (by kernel_rfl)
theorem En116 : Ent Tryz.prog 116 := ent_of Tryz.func116 (by kernel_rfl) (by kernel_rfl)
theorem En117 : Ent Tryz.prog 117 := ent_of Tryz.func117 (by kernel_rfl) (by kernel_rfl)
theorem En118 : Ent Tryz.prog 118 := ent_of Tryz.func118 (by kernel_rfl) (by kernel_rfl)
theorem En119 : Ent Tryz.prog 119 := ent_of Tryz.func119 (by kernel_rfl) (by kernel_rfl)
theorem En120 : Ent Tryz.prog 120 := ent_of Tryz.func120 (by kernel_rfl) (by kernel_rfl)
theorem En121 : Ent Tryz.prog 121 := ent_of Tryz.func121 (by kernel_rfl) (by kernel_rfl)
theorem En122 : Ent Tryz.prog 122 := ent_of Tryz.func122 (by kernel_rfl) (by kernel_rfl)
theorem En123 : Ent Tryz.prog 123 := ent_of Tryz.func123 (by kernel_rfl) (by kernel_rfl)
theorem En124 : Ent Tryz.prog 124 := ent_of Tryz.func124 (by kernel_rfl) (by kernel_rfl)
theorem En125 : Ent Tryz.prog 125 := ent_of Tryz.func125 (by kernel_rfl) (by kernel_rfl)
theorem En126 : Ent Tryz.prog 126 := ent_of Tryz.func126 (by kernel_rfl) (by kernel_rfl)
theorem En127 : Ent Tryz.prog 127 := ent_of Tryz.func127 (by kernel_rfl) (by kernel_rfl)
theorem En128 : Ent Tryz.prog 128 := ent_of Tryz.func128 (by kernel_rfl) (by kernel_rfl)
theorem En129 : Ent Tryz.prog 129 := ent_of Tryz.func129 (by kernel_rfl) (by kernel_rfl)
theorem En130 : Ent Tryz.prog 130 := ent_of Tryz.func130 (by kernel_rfl) (by kernel_rfl)
theorem En131 : Ent Tryz.prog 131 := ent_of Tryz.func131 (by kernel_rfl) (by kernel_rfl)
theorem En132 : Ent Tryz.prog 132 := ent_of Tryz.func132 (by kernel_rfl) (by kernel_rfl)
theorem En133 : Ent Tryz.prog 133 := ent_of Tryz.func133 (by kernel_rfl) (by kernel_rfl)
theorem En134 : Ent Tryz.prog 134 := ent_of Tryz.func134 (by kernel_rfl) (by kernel_rfl)
theorem En135 : Ent Tryz.prog 135 := ent_of Tryz.func135 (by kernel_rfl) (by kernel_rfl)
theorem En136 : Ent Tryz.prog 136 := ent_of Tryz.func136 (by kernel_rfl) (by kernel_rfl)
theorem En137 : Ent Tryz.prog 137 := ent_of Tryz.func137 (by kernel_rfl) (by kernel_rfl)
theorem En138 : Ent Tryz.prog 138 := ent_of Tryz.func138 (by kernel_rfl) (by kernel_rfl)
theorem En139 : Ent Tryz.prog 139 := ent_of Tryz.func139 (by kernel_rfl) (by kernel_rfl)
theorem En140 : Ent Tryz.prog 140 := ent_of Tryz.func140 (by kernel_rfl) (by kernel_rfl)
theorem En141 : Ent Tryz.prog 141 := ent_of Tryz.func141 (by kernel_rfl) (by kernel_rfl)
theorem En142 : Ent Tryz.prog 142 := ent_of Tryz.func142 (by kernel_rfl) (by kernel_rfl)
theorem En143 : Ent Tryz.prog 143 := ent_of Tryz.func143 (by kernel_rfl) (by kernel_rfl)
theorem En144 : Ent Tryz.prog 144 := ent_of Tryz.func144 (by kernel_rfl) (by kernel_rfl)
theorem En145 : Ent Tryz.prog 145 := ent_of Tryz.func145 (by kernel_rfl) (by kernel_rfl)
theorem En146 : Ent Tryz.prog 146 := ent_of Tryz.func146 (by kernel_rfl) (by kernel_rfl)
theorem En147 : Ent Tryz.prog 147 := ent_of Tryz.func147 (by kernel_rfl) (by kernel_rfl)
theorem En148 : Ent Tryz.prog 148 := ent_of Tryz.func148 (by kernel_rfl) (by kernel_rfl)
theorem En149 : Ent Tryz.prog 149 := ent_of Tryz.func149 (by kernel_rfl) (by kernel_rfl)
theorem En150 : Ent Tryz.prog 150 := ent_of Tryz.func150 (by kernel_rfl) (by kernel_rfl)
theorem En151 : Ent Tryz.prog 151 := ent_of Tryz.func151 (by kernel_rfl) (by kernel_rfl)
theorem En152 : Ent Tryz.prog 152 := ent_of Tryz.func152 (by kernel_rfl) (by kernel_rfl)
theorem En153 : Ent Tryz.prog 153 := ent_of Tryz.func153 (by kernel_rfl) (by kernel_rfl)
theorem En154 : Ent Tryz.prog 154 := ent_of Tryz.func154 (by kernel_rfl) (by kernel_rfl)
theorem En155 : Ent Tryz.prog 155 := ent_of Tryz.func155 (by kernel_rfl) (by kernel_rfl)
theorem En156 : Ent Tryz.prog 156 := ent_of Tryz.func156 (by kernel_rfl) (by kernel_rfl)
theorem En157 : Ent Tryz.prog 157 := ent_of Tryz.func157 (by kernel_rfl) (by kernel_rfl)
theorem En158 : Ent Tryz.prog 158 := ent_of Tryz.func158 (by kernel_rfl) (by kernel_rfl)
theorem En159 : Ent Tryz.prog 159 := ent_of Tryz.func159 (by kernel_rfl) (by kernel_rfl)
theorem En160 : Ent Tryz.prog 160 := ent_of Tryz.func160 (by kernel_rfl) (by kernel_rfl)
theorem En161 : Ent Tryz.prog 161 := ent_of Tryz.func161 (by kernel_rfl) (by kernel_rfl)
theorem En162 : Ent Tryz.prog 162 := ent_of Tryz.func162 (by kernel_rfl) (by kernel_rfl)
theorem En163 : Ent Tryz.prog 163 := ent_of Tryz.func163 (by kernel_rfl) (by kernel_rfl)
theorem En164 : Ent Tryz.prog 164 := ent_of Tryz.func164 (by kernel_rfl) (by kernel_rfl)
theorem En165 : Ent Tryz.prog 165 := ent_of Tryz.func165 (by kernel_rfl) (by kernel_rfl)
theorem En166 : Ent Tryz.prog 166 := ent_of Tryz.func166 (by kernel_rfl) (by kernel_rfl)
theorem En167 : Ent Tryz.prog 167 := ent_of Tryz.func167 (by kernel_rfl) (by kernel_rfl)
theorem En168 : Ent Tryz.prog 168 := ent_of Tryz.func168 (by kernel_rfl) (by kernel_rfl)
theorem En169 : Ent Tryz.prog 169 := ent_of Tryz.func169 (by kernel_rfl) (by kernel_rfl)
theorem En170 : Ent Tryz.prog 170 := ent_of Tryz.func170 (by kernel_rfl) (by kernel_rfl)
theorem En171 : Ent Tryz.prog 171 := ent_of Tryz.func171 (by kernel_rfl) (by kernel_rfl)
theorem En172 : Ent Tryz.prog 172 := ent_of Tryz.func172 (by kernel_rfl) (by kernel_rfl)
theorem En173 : Ent Tryz.prog 173 := ent_of Tryz.func173 (by kernel_rfl) (by kernel_rfl)
theorem En174 : Ent Tryz.prog 174 := ent_of Tryz.func174 (by kernel_rfl) (by kernel_rfl)
theorem En175 : Ent Tryz.prog 175 := ent_of Tryz.func175 (by kernel_rfl) (by kernel_rfl)
theorem En176 : Ent Tryz.prog 176 := ent_of Tryz.func176 (by kernel_rfl) (by kernel_rfl)
theorem En177 : Ent Tryz.prog 177 := ent_of Tryz.func177 (by kernel_rfl) (by kernel_rfl)
theorem En178 : Ent Tryz.prog 178 := ent_of Tryz.func178 (by kernel_rfl) (by kernel_rfl)
theorem En179 : Ent Tryz.prog 179 := ent_of Tryz.func179 (by kernel_rfl) (by kernel_rfl)
theorem En180 : Ent Tryz.prog 180 := ent_of Tryz.func180 (by kernel_rfl) (by kernel_rfl)
theorem En181 : Ent Tryz.prog 181 := ent_of Tryz.func181 (by kernel_rfl) (by kernel_rfl)
theorem En182 : Ent Tryz.prog 182 := ent_of Tryz.func182 (by kernel_rfl) (by kernel_rfl)
theorem En183 : Ent Tryz.prog 183 := ent_of Tryz.func183 (by kernel_rfl) (by kernel_rfl)
theorem En184 : Ent Tryz.prog 184 := ent_of Tryz.func184 (by kernel_rfl) (by kernel_rfl)
theorem En185 : Ent Tryz.prog 185 := ent_of Tryz.func185 (by kernel_rfl) (by kernel_rfl)
theorem En186 : Ent Tryz.prog 186 := ent_of Tryz.func186 (by kernel_rfl) (by kernel_rfl)
theorem En187 : Ent Tryz.prog 187 := ent_of Tryz.func187 (by kernel_rfl) (by kernel_rfl)
theorem En188 : Ent Tryz.prog 188 := ent_of Tryz.func188 (by kernel_rfl) (by kernel_rfl)
theorem En189 : Ent Tryz.prog 189 := ent_of Tryz.func189 (by kernel_rfl) (by kernel_rfl)
theorem En190 : Ent Tryz.prog 190 := ent_of Tryz.func190 (by kernel_rfl) (by kernel_rfl)
theorem En191 : Ent Tryz.prog 191 := ent_of Tryz.func191 (by kernel_rfl) (by kernel_rfl)
theorem En192 : Ent Tryz.prog 192 := ent_of Tryz.func192 (by kernel_rfl) (by kernel_rfl)
theorem En193 : Ent Tryz.prog 193 := ent_of Tryz.func193 (by kernel_rfl) (by kernel_rfl)
theorem En194 : Ent Tryz.prog 194 := ent_of Tryz.func194 (by kernel_rfl) (by kernel_rfl)
theorem En195 : Ent Tryz.prog 195 := ent_of Tryz.func195 (by kernel_rfl) (by kernel_rfl)
theorem En196 : Ent Tryz.prog 196 := ent_of Tryz.func196 (by kernel_rfl) (by kernel_rfl)
theorem En197 : Ent Tryz.prog 197 := ent_of Tryz.func197 (by kernel_rfl) (by kernel_rfl)
theorem En198 : Ent Tryz.prog 198 := ent_of Tryz.func198 (by kernel_rfl) (by kernel_rfl)
theorem En199 : Ent Tryz.prog 199 := ent_of Tryz.func199 (by kernel_rfl) (by kernel_rfl)
theorem En200 : Ent Tryz.prog 200 := ent_of Tryz.func200 (by kernel_rfl) (by kernel_rfl)
theorem En201 : Ent Tryz.prog 201 := ent_of Tryz.func201 (by kernel_rfl) (by kernel_rfl)
theorem En202 : Ent Tryz.prog 202 := ent_of Tryz.func202 (by kernel_rfl) (by kernel_rfl)
theorem En203 : Ent Tryz.prog 203 := ent_of Tryz.func203 (by kernel_rfl) (by kernel_rfl)
theorem En204 : Ent Tryz.prog 204 := ent_of Tryz.func204 (by kernel_rfl) (by kernel_rfl)
theorem En205 : Ent Tryz.prog 205 := ent_of Tryz.func205 (by kernel_rfl) (by kernel_rfl)
theorem En206 : Ent Tryz.prog 206 := ent_of Tryz.func206 (by kernel_rfl) (by kernel_rfl)
theorem En207 : Ent Tryz.prog 207 := ent_of Tryz.func207 (by kernel_rfl) (by kernel_rfl)
theorem En208 : Ent Tryz.prog 208 := ent_of Tryz.func208 (by kernel_rfl) (by kernel_rfl)
theorem En209 : Ent Tryz.prog 209 := ent_of Tryz.func209 (by kernel_rfl) (by kernel_rfl)
theorem En210 : Ent Tryz.prog 210 := ent_of Tryz.func210 (by kernel_rfl) (by kernel_rfl)
theorem En211 : Ent Tryz.prog 211 := ent_of Tryz.func211 (by kernel_rfl) (by kernel_rfl)
theorem En212 : Ent Tryz.prog 212 := ent_of Tryz.func212 (by kernel_rfl) (by kernel_rfl)
theorem En213 : Ent Tryz.prog 213 := ent_of Tryz.func213 (by kernel_rfl) (by kernel_rfl)
theorem En214 : Ent Tryz.prog 214 := ent_of Tryz.func214 (by kernel_rfl) (by kernel_rfl)
theorem En215 : Ent Tryz.prog 215 := ent_of Tryz.func215 (by kernel_rfl) (by kernel_rfl)
theorem En216 : Ent Tryz.prog 216 := ent_of Tryz.func216 (by kernel_rfl) (by kernel_rfl)
theorem En217 : Ent Tryz.prog 217 := ent_of Tryz.func217 (by kernel_rfl) (by kernel_rfl)
theorem En218 : Ent Tryz.prog 218 := ent_of Tryz.func218 (by kernel_rfl) (by kernel_rfl)
theorem En219 : Ent Tryz.prog 219 := ent_of Tryz.func219 (by kernel_rfl) (by kernel_rfl)
theorem En220 : Ent Tryz.prog 220 := ent_of Tryz.func220 (by kernel_rfl) (by kernel_rfl)
theorem En221 : Ent Tryz.prog 221 := ent_of Tryz.func221 (by kernel_rfl) (by kernel_rfl)
theorem En222 : Ent Tryz.prog 222 := ent_of Tryz.func222 (by kernel_rfl) (by kernel_rfl)
theorem En223 : Ent Tryz.prog 223 := ent_of Tryz.func223 (by kernel_rfl) (by kernel_rfl)
theorem En224 : Ent Tryz.prog 224 := ent_of Tryz.func224 (by kernel_rfl) (by kernel_rfl)
theorem En225 : Ent Tryz.prog 225 := ent_of Tryz.func225 (by kernel_rfl) (by kernel_rfl)
theorem En226 : Ent Tryz.prog 226 := ent_of Tryz.func226 (by kernel_rfl) (by kernel_rfl)
theorem En227 : Ent Tryz.prog 227 := ent_of Tryz.func227 (by kernel_rfl) (by kernel_rfl)
theorem En228 : Ent Tryz.prog 228 := ent_of Tryz.func228 (by kernel_rfl) (by kernel_rfl)
theorem En229 : Ent Tryz.prog 229 := ent_of Tryz.func229 (by kernel_rfl) (by kernel_rfl)
theorem En230 : Ent Tryz.prog 230 := ent_of Tryz.func230 (by kernel_rfl) (by kernel_rfl)
theorem En231 : Ent Tryz.prog 231 := ent_of Tryz.func231 (by kernel_rfl) (by kernel_rfl)
theorem En232 : Ent Tryz.prog 232 := ent_of Tryz.func232 (by kernel_rfl) (by kernel_rfl)
theorem En233 : Ent Tryz.prog 233 := ent_of Tryz.func233 (by kernel_rfl) (by kernel_rfl)
theorem En234 : Ent Tryz.prog 234 := ent_of Tryz.func234 (by kernel_rfl) (by kernel_rfl)
theorem En235 : Ent Tryz.prog 235 := ent_of Tryz.func235 (by kernel_rfl) (by kernel_rfl)
theorem En236 : Ent Tryz.prog 236 := ent_of Tryz.func236 (by kernel_rfl) (by kernel_rfl)
theorem En237 : Ent Tryz.prog 237 := ent_of Tryz.func237 (by kernel_rfl) (by kernel_rfl)
theorem En238 : Ent Tryz.prog 238 := ent_of Tryz.func238 (by kernel_rfl) (by kernel_rfl)
end Go.Proofs.YthjaopefoiploaaGreat
