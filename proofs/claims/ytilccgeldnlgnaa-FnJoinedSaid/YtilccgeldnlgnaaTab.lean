/-
  Closed facts on the types and the functions of this translation, each reckoned by the kernel. Made by a program of mine (gentab.py).
-/
import Derived.Test.YtilccgeldnlgnaaMem2
import Derived.Test.YtilccgeldnlgnaaChecked
namespace Go.Proofs.Ytilccgeldnlgnaa
open Go
theorem Sz1 : ∀ w, (sizeOf 1).run Try.prog w = .ok 1 w := fun w => by kernel_rfl
theorem Sc1 : Scal Try.prog 1 := fun w => ⟨by kernel_rfl, Sz1 w⟩
theorem Zr1 : ZeroT Try.prog 1 [.nilFunc] := ⟨.nilFunc, fun w => by kernel_rfl, rfl⟩
theorem Sz2 : ∀ w, (sizeOf 2).run Try.prog w = .ok 1 w := fun w => by kernel_rfl
theorem Sc2 : Scal Try.prog 2 := fun w => ⟨by kernel_rfl, Sz2 w⟩
theorem Zr2 : ZeroT Try.prog 2 [.int .i64 0] := ⟨.int .i64 0, fun w => by kernel_rfl, rfl⟩
theorem Sz3 : ∀ w, (sizeOf 3).run Try.prog w = .ok 1 w := fun w => by kernel_rfl
theorem Sc3 : Scal Try.prog 3 := fun w => ⟨by kernel_rfl, Sz3 w⟩
theorem Zr3 : ZeroT Try.prog 3 [.int .i64 0] := ⟨.int .i64 0, fun w => by kernel_rfl, rfl⟩
theorem Sz4 : ∀ w, (sizeOf 4).run Try.prog w = .ok 1 w := fun w => by kernel_rfl
theorem Sc4 : Scal Try.prog 4 := fun w => ⟨by kernel_rfl, Sz4 w⟩
theorem Zr4 : ZeroT Try.prog 4 [.bool false] := ⟨.bool false, fun w => by kernel_rfl, rfl⟩
theorem Sz5 : ∀ w, (sizeOf 5).run Try.prog w = .ok 1 w := fun w => by kernel_rfl
theorem Sc5 : Scal Try.prog 5 := fun w => ⟨by kernel_rfl, Sz5 w⟩
theorem Zr5 : ZeroT Try.prog 5 [.int .u8 0] := ⟨.int .u8 0, fun w => by kernel_rfl, rfl⟩
theorem Sz6 : ∀ w, (sizeOf 6).run Try.prog w = .ok 1 w := fun w => by kernel_rfl
theorem Sc6 : Scal Try.prog 6 := fun w => ⟨by kernel_rfl, Sz6 w⟩
theorem Zr6 : ZeroT Try.prog 6 [.int .u8 0] := ⟨.int .u8 0, fun w => by kernel_rfl, rfl⟩
theorem Sz7 : ∀ w, (sizeOf 7).run Try.prog w = .ok 4 w := fun w => by kernel_rfl
theorem Ag7 : Aggr Try.prog 7 4 := fun w => ⟨by kernel_rfl, Sz7 w⟩
theorem Fo7_0 : FOff Try.prog 7 0 0 := ⟨0, by kernel_rfl⟩
theorem Fo7_1 : FOff Try.prog 7 1 1 := ⟨0, by kernel_rfl⟩
theorem Fo7_2 : FOff Try.prog 7 2 2 := ⟨0, by kernel_rfl⟩
theorem Fo7_3 : FOff Try.prog 7 3 3 := ⟨0, by kernel_rfl⟩
theorem Pl7 : Places Try.prog 7 [(0, 1), (1, 1), (2, 1), (3, 1)] := ⟨_, Try.underlying7, fun w => by kernel_rfl⟩
theorem Zr7 : ZeroT Try.prog 7 [.int .i64 0, .int .i64 0, .bool false, .int .u8 0] := ⟨.agg #[.int .i64 0, .int .i64 0, .bool false, .int .u8 0], fun w => by kernel_rfl, rfl⟩
theorem Sz8 : ∀ w, (sizeOf 8).run Try.prog w = .ok 4 w := fun w => by kernel_rfl
theorem Ag8 : Aggr Try.prog 8 4 := fun w => ⟨by kernel_rfl, Sz8 w⟩
theorem Fo8_0 : FOff Try.prog 8 0 0 := ⟨0, by kernel_rfl⟩
theorem Fo8_1 : FOff Try.prog 8 1 1 := ⟨0, by kernel_rfl⟩
theorem Fo8_2 : FOff Try.prog 8 2 2 := ⟨0, by kernel_rfl⟩
theorem Fo8_3 : FOff Try.prog 8 3 3 := ⟨0, by kernel_rfl⟩
theorem Pl8 : Places Try.prog 8 [(0, 1), (1, 1), (2, 1), (3, 1)] := ⟨_, Try.underlying8, fun w => by kernel_rfl⟩
theorem Zr8 : ZeroT Try.prog 8 [.int .i64 0, .int .i64 0, .bool false, .int .u8 0] := ⟨.agg #[.int .i64 0, .int .i64 0, .bool false, .int .u8 0], fun w => by kernel_rfl, rfl⟩
theorem Sz9 : ∀ w, (sizeOf 9).run Try.prog w = .ok 1 w := fun w => by kernel_rfl
theorem Sc9 : Scal Try.prog 9 := fun w => ⟨by kernel_rfl, Sz9 w⟩
theorem Zr9 : ZeroT Try.prog 9 [.string ByteArray.empty] := ⟨.string ByteArray.empty, fun w => by kernel_rfl, rfl⟩
theorem Sz22 : ∀ w, (sizeOf 22).run Try.prog w = .ok 1 w := fun w => by kernel_rfl
theorem Sc22 : Scal Try.prog 22 := fun w => ⟨by kernel_rfl, Sz22 w⟩
theorem El22 : ElemT Try.prog 22 91 1 24 [.slice none 0 0] := elemT_of (by kernel_rfl)
theorem Is22 : IdxS Try.prog 22 91 1 := ⟨Try.underlying22, by kernel_rfl⟩
theorem Zr22 : ZeroT Try.prog 22 [.slice none 0 0] := ⟨.slice none 0 0, fun w => by kernel_rfl, rfl⟩
theorem Sz24 : ∀ w, (sizeOf 24).run Try.prog w = .ok 1 w := fun w => by kernel_rfl
theorem Sc24 : Scal Try.prog 24 := fun w => ⟨by kernel_rfl, Sz24 w⟩
theorem El24 : ElemT Try.prog 24 81 4 32 [.int .i64 0, .int .i64 0, .int .i64 0, .int .i64 0] := elemT_of (by kernel_rfl)
theorem Is24 : IdxS Try.prog 24 81 4 := ⟨Try.underlying24, by kernel_rfl⟩
theorem Zr24 : ZeroT Try.prog 24 [.slice none 0 0] := ⟨.slice none 0 0, fun w => by kernel_rfl, rfl⟩
theorem Sz27 : ∀ w, (sizeOf 27).run Try.prog w = .ok 1 w := fun w => by kernel_rfl
theorem Sc27 : Scal Try.prog 27 := fun w => ⟨by kernel_rfl, Sz27 w⟩
theorem El27 : ElemT Try.prog 27 24 1 24 [.slice none 0 0] := elemT_of (by kernel_rfl)
theorem Is27 : IdxS Try.prog 27 24 1 := ⟨Try.underlying27, by kernel_rfl⟩
theorem Zr27 : ZeroT Try.prog 27 [.slice none 0 0] := ⟨.slice none 0 0, fun w => by kernel_rfl, rfl⟩
theorem Sz34 : ∀ w, (sizeOf 34).run Try.prog w = .ok 1 w := fun w => by kernel_rfl
theorem Sc34 : Scal Try.prog 34 := fun w => ⟨by kernel_rfl, Sz34 w⟩
theorem El34 : ElemT Try.prog 34 5 1 1 [.int .u8 0] := elemT_of (by kernel_rfl)
theorem Is34 : IdxS Try.prog 34 5 1 := ⟨Try.underlying34, by kernel_rfl⟩
theorem Zr34 : ZeroT Try.prog 34 [.slice none 0 0] := ⟨.slice none 0 0, fun w => by kernel_rfl, rfl⟩
theorem Sz36 : ∀ w, (sizeOf 36).run Try.prog w = .ok 3 w := fun w => by kernel_rfl
theorem Ag36 : Aggr Try.prog 36 3 := fun w => ⟨by kernel_rfl, Sz36 w⟩
theorem Fo36_0 : FOff Try.prog 36 0 0 := ⟨0, by kernel_rfl⟩
theorem Fo36_1 : FOff Try.prog 36 1 1 := ⟨0, by kernel_rfl⟩
theorem Fo36_2 : FOff Try.prog 36 2 2 := ⟨0, by kernel_rfl⟩
theorem Pl36 : Places Try.prog 36 [(0, 1), (1, 1), (2, 1)] := ⟨_, Try.underlying36, fun w => by kernel_rfl⟩
theorem Zr36 : ZeroT Try.prog 36 [.int .i64 0, .int .i64 0, .int .i64 0] := ⟨.agg #[.int .i64 0, .int .i64 0, .int .i64 0], fun w => by kernel_rfl, rfl⟩
theorem Sz37 : ∀ w, (sizeOf 37).run Try.prog w = .ok 3 w := fun w => by kernel_rfl
theorem Ag37 : Aggr Try.prog 37 3 := fun w => ⟨by kernel_rfl, Sz37 w⟩
theorem Fo37_0 : FOff Try.prog 37 0 0 := ⟨0, by kernel_rfl⟩
theorem Fo37_1 : FOff Try.prog 37 1 1 := ⟨0, by kernel_rfl⟩
theorem Fo37_2 : FOff Try.prog 37 2 2 := ⟨0, by kernel_rfl⟩
theorem Pl37 : Places Try.prog 37 [(0, 1), (1, 1), (2, 1)] := ⟨_, Try.underlying37, fun w => by kernel_rfl⟩
theorem Zr37 : ZeroT Try.prog 37 [.int .i64 0, .int .i64 0, .int .i64 0] := ⟨.agg #[.int .i64 0, .int .i64 0, .int .i64 0], fun w => by kernel_rfl, rfl⟩
theorem Sz49 : ∀ w, (sizeOf 49).run Try.prog w = .ok 5 w := fun w => by kernel_rfl
theorem Ag49 : Aggr Try.prog 49 5 := fun w => ⟨by kernel_rfl, Sz49 w⟩
theorem Fo49_0 : FOff Try.prog 49 0 0 := ⟨0, by kernel_rfl⟩
theorem Fo49_1 : FOff Try.prog 49 1 1 := ⟨0, by kernel_rfl⟩
theorem Fo49_2 : FOff Try.prog 49 2 2 := ⟨0, by kernel_rfl⟩
theorem Fo49_3 : FOff Try.prog 49 3 3 := ⟨0, by kernel_rfl⟩
theorem Fo49_4 : FOff Try.prog 49 4 4 := ⟨0, by kernel_rfl⟩
theorem Pl49 : Places Try.prog 49 [(0, 1), (1, 1), (2, 1), (3, 1), (4, 1)] := ⟨_, Try.underlying49, fun w => by kernel_rfl⟩
theorem Zr49 : ZeroT Try.prog 49 [.int .i64 0, .int .i64 0, .int .i64 0, .int .i64 0, .int .i64 0] := ⟨.agg #[.int .i64 0, .int .i64 0, .int .i64 0, .int .i64 0, .int .i64 0], fun w => by kernel_rfl, rfl⟩
theorem Sz50 : ∀ w, (sizeOf 50).run Try.prog w = .ok 5 w := fun w => by kernel_rfl
theorem Ag50 : Aggr Try.prog 50 5 := fun w => ⟨by kernel_rfl, Sz50 w⟩
theorem Fo50_0 : FOff Try.prog 50 0 0 := ⟨0, by kernel_rfl⟩
theorem Fo50_1 : FOff Try.prog 50 1 1 := ⟨0, by kernel_rfl⟩
theorem Fo50_2 : FOff Try.prog 50 2 2 := ⟨0, by kernel_rfl⟩
theorem Fo50_3 : FOff Try.prog 50 3 3 := ⟨0, by kernel_rfl⟩
theorem Fo50_4 : FOff Try.prog 50 4 4 := ⟨0, by kernel_rfl⟩
theorem Pl50 : Places Try.prog 50 [(0, 1), (1, 1), (2, 1), (3, 1), (4, 1)] := ⟨_, Try.underlying50, fun w => by kernel_rfl⟩
theorem Zr50 : ZeroT Try.prog 50 [.int .i64 0, .int .i64 0, .int .i64 0, .int .i64 0, .int .i64 0] := ⟨.agg #[.int .i64 0, .int .i64 0, .int .i64 0, .int .i64 0, .int .i64 0], fun w => by kernel_rfl, rfl⟩
theorem Sz52 : ∀ w, (sizeOf 52).run Try.prog w = .ok 5 w := fun w => by kernel_rfl
theorem Ag52 : Aggr Try.prog 52 5 := fun w => ⟨by kernel_rfl, Sz52 w⟩
theorem Fo52_0 : FOff Try.prog 52 0 0 := ⟨0, by kernel_rfl⟩
theorem Fo52_1 : FOff Try.prog 52 1 1 := ⟨0, by kernel_rfl⟩
theorem Fo52_2 : FOff Try.prog 52 2 2 := ⟨0, by kernel_rfl⟩
theorem Fo52_3 : FOff Try.prog 52 3 3 := ⟨0, by kernel_rfl⟩
theorem Fo52_4 : FOff Try.prog 52 4 4 := ⟨0, by kernel_rfl⟩
theorem Pl52 : Places Try.prog 52 [(0, 1), (1, 1), (2, 1), (3, 1), (4, 1)] := ⟨_, Try.underlying52, fun w => by kernel_rfl⟩
theorem Zr52 : ZeroT Try.prog 52 [.int .i64 0, .int .i64 0, .int .i64 0, .int .i64 0, .int .i64 0] := ⟨.agg #[.int .i64 0, .int .i64 0, .int .i64 0, .int .i64 0, .int .i64 0], fun w => by kernel_rfl, rfl⟩
theorem Sz55 : ∀ w, (sizeOf 55).run Try.prog w = .ok 1 w := fun w => by kernel_rfl
theorem Sc55 : Scal Try.prog 55 := fun w => ⟨by kernel_rfl, Sz55 w⟩
theorem Zr55 : ZeroT Try.prog 55 [.pointer none] := ⟨.pointer none, fun w => by kernel_rfl, rfl⟩
theorem Sz57 : ∀ w, (sizeOf 57).run Try.prog w = .ok 1 w := fun w => by kernel_rfl
theorem Sc57 : Scal Try.prog 57 := fun w => ⟨by kernel_rfl, Sz57 w⟩
theorem Zr57 : ZeroT Try.prog 57 [.int .u64 0] := ⟨.int .u64 0, fun w => by kernel_rfl, rfl⟩
theorem Sz59 : ∀ w, (sizeOf 59).run Try.prog w = .ok 1 w := fun w => by kernel_rfl
theorem Sc59 : Scal Try.prog 59 := fun w => ⟨by kernel_rfl, Sz59 w⟩
theorem El59 : ElemT Try.prog 59 71 1 24 [.slice none 0 0] := elemT_of (by kernel_rfl)
theorem Is59 : IdxS Try.prog 59 71 1 := ⟨Try.underlying59, by kernel_rfl⟩
theorem Zr59 : ZeroT Try.prog 59 [.slice none 0 0] := ⟨.slice none 0 0, fun w => by kernel_rfl, rfl⟩
theorem Sz63 : ∀ w, (sizeOf 63).run Try.prog w = .ok 2 w := fun w => by kernel_rfl
theorem Ag63 : Aggr Try.prog 63 2 := fun w => ⟨by kernel_rfl, Sz63 w⟩
theorem Fo63_0 : FOff Try.prog 63 0 0 := ⟨0, by kernel_rfl⟩
theorem Fo63_1 : FOff Try.prog 63 1 1 := ⟨0, by kernel_rfl⟩
theorem Pl63 : Places Try.prog 63 [(0, 1), (1, 1)] := ⟨_, Try.underlying63, fun w => by kernel_rfl⟩
theorem Zr63 : ZeroT Try.prog 63 [.int .i64 0, .int .i64 0] := ⟨.agg #[.int .i64 0, .int .i64 0], fun w => by kernel_rfl, rfl⟩
theorem Sz64 : ∀ w, (sizeOf 64).run Try.prog w = .ok 2 w := fun w => by kernel_rfl
theorem Ag64 : Aggr Try.prog 64 2 := fun w => ⟨by kernel_rfl, Sz64 w⟩
theorem Fo64_0 : FOff Try.prog 64 0 0 := ⟨0, by kernel_rfl⟩
theorem Fo64_1 : FOff Try.prog 64 1 1 := ⟨0, by kernel_rfl⟩
theorem Pl64 : Places Try.prog 64 [(0, 1), (1, 1)] := ⟨_, Try.underlying64, fun w => by kernel_rfl⟩
theorem Zr64 : ZeroT Try.prog 64 [.int .i64 0, .int .i64 0] := ⟨.agg #[.int .i64 0, .int .i64 0], fun w => by kernel_rfl, rfl⟩
theorem Sz69 : ∀ w, (sizeOf 69).run Try.prog w = .ok 1 w := fun w => by kernel_rfl
theorem Sc69 : Scal Try.prog 69 := fun w => ⟨by kernel_rfl, Sz69 w⟩
theorem El69 : ElemT Try.prog 69 128 2 32 [.int .i64 0, .slice none 0 0] := elemT_of (by kernel_rfl)
theorem Is69 : IdxS Try.prog 69 128 2 := ⟨Try.underlying69, by kernel_rfl⟩
theorem Zr69 : ZeroT Try.prog 69 [.slice none 0 0] := ⟨.slice none 0 0, fun w => by kernel_rfl, rfl⟩
theorem Sz70 : ∀ w, (sizeOf 70).run Try.prog w = .ok 1 w := fun w => by kernel_rfl
theorem Ag70 : Aggr Try.prog 70 1 := fun w => ⟨by kernel_rfl, Sz70 w⟩
theorem Fo70_0 : FOff Try.prog 70 0 0 := ⟨0, by kernel_rfl⟩
theorem Pl70 : Places Try.prog 70 [(0, 1)] := ⟨_, Try.underlying70, fun w => by kernel_rfl⟩
theorem Zr70 : ZeroT Try.prog 70 [.slice none 0 0] := ⟨.agg #[.slice none 0 0], fun w => by kernel_rfl, rfl⟩
theorem Sz71 : ∀ w, (sizeOf 71).run Try.prog w = .ok 1 w := fun w => by kernel_rfl
theorem Ag71 : Aggr Try.prog 71 1 := fun w => ⟨by kernel_rfl, Sz71 w⟩
theorem Fo71_0 : FOff Try.prog 71 0 0 := ⟨0, by kernel_rfl⟩
theorem Pl71 : Places Try.prog 71 [(0, 1)] := ⟨_, Try.underlying71, fun w => by kernel_rfl⟩
theorem Zr71 : ZeroT Try.prog 71 [.slice none 0 0] := ⟨.agg #[.slice none 0 0], fun w => by kernel_rfl, rfl⟩
theorem Sz78 : ∀ w, (sizeOf 78).run Try.prog w = .ok 4 w := fun w => by kernel_rfl
theorem Ag78 : Aggr Try.prog 78 4 := fun w => ⟨by kernel_rfl, Sz78 w⟩
theorem Fo78_0 : FOff Try.prog 78 0 0 := ⟨0, by kernel_rfl⟩
theorem Fo78_1 : FOff Try.prog 78 1 1 := ⟨0, by kernel_rfl⟩
theorem Fo78_2 : FOff Try.prog 78 2 2 := ⟨0, by kernel_rfl⟩
theorem Fo78_3 : FOff Try.prog 78 3 3 := ⟨0, by kernel_rfl⟩
theorem Pl78 : Places Try.prog 78 [(0, 1), (1, 1), (2, 1), (3, 1)] := ⟨_, Try.underlying78, fun w => by kernel_rfl⟩
theorem Zr78 : ZeroT Try.prog 78 [.int .i64 0, .int .i64 0, .int .i64 0, .int .i64 0] := ⟨.agg #[.int .i64 0, .int .i64 0, .int .i64 0, .int .i64 0], fun w => by kernel_rfl, rfl⟩
theorem Sz79 : ∀ w, (sizeOf 79).run Try.prog w = .ok 4 w := fun w => by kernel_rfl
theorem Ag79 : Aggr Try.prog 79 4 := fun w => ⟨by kernel_rfl, Sz79 w⟩
theorem Fo79_0 : FOff Try.prog 79 0 0 := ⟨0, by kernel_rfl⟩
theorem Fo79_1 : FOff Try.prog 79 1 1 := ⟨0, by kernel_rfl⟩
theorem Fo79_2 : FOff Try.prog 79 2 2 := ⟨0, by kernel_rfl⟩
theorem Fo79_3 : FOff Try.prog 79 3 3 := ⟨0, by kernel_rfl⟩
theorem Pl79 : Places Try.prog 79 [(0, 1), (1, 1), (2, 1), (3, 1)] := ⟨_, Try.underlying79, fun w => by kernel_rfl⟩
theorem Zr79 : ZeroT Try.prog 79 [.int .i64 0, .int .i64 0, .int .i64 0, .int .i64 0] := ⟨.agg #[.int .i64 0, .int .i64 0, .int .i64 0, .int .i64 0], fun w => by kernel_rfl, rfl⟩
theorem Sz81 : ∀ w, (sizeOf 81).run Try.prog w = .ok 4 w := fun w => by kernel_rfl
theorem Ag81 : Aggr Try.prog 81 4 := fun w => ⟨by kernel_rfl, Sz81 w⟩
theorem Fo81_0 : FOff Try.prog 81 0 0 := ⟨0, by kernel_rfl⟩
theorem Fo81_1 : FOff Try.prog 81 1 1 := ⟨0, by kernel_rfl⟩
theorem Fo81_2 : FOff Try.prog 81 2 2 := ⟨0, by kernel_rfl⟩
theorem Fo81_3 : FOff Try.prog 81 3 3 := ⟨0, by kernel_rfl⟩
theorem Pl81 : Places Try.prog 81 [(0, 1), (1, 1), (2, 1), (3, 1)] := ⟨_, Try.underlying81, fun w => by kernel_rfl⟩
theorem Zr81 : ZeroT Try.prog 81 [.int .i64 0, .int .i64 0, .int .i64 0, .int .i64 0] := ⟨.agg #[.int .i64 0, .int .i64 0, .int .i64 0, .int .i64 0], fun w => by kernel_rfl, rfl⟩
theorem Sz84 : ∀ w, (sizeOf 84).run Try.prog w = .ok 2 w := fun w => by kernel_rfl
theorem Ag84 : Aggr Try.prog 84 2 := fun w => ⟨by kernel_rfl, Sz84 w⟩
theorem Fo84_0 : FOff Try.prog 84 0 0 := ⟨0, by kernel_rfl⟩
theorem Fo84_1 : FOff Try.prog 84 1 1 := ⟨0, by kernel_rfl⟩
theorem Pl84 : Places Try.prog 84 [(0, 1), (1, 1)] := ⟨_, Try.underlying84, fun w => by kernel_rfl⟩
theorem Zr84 : ZeroT Try.prog 84 [.int .i64 0, .int .i64 0] := ⟨.agg #[.int .i64 0, .int .i64 0], fun w => by kernel_rfl, rfl⟩
theorem Sz91 : ∀ w, (sizeOf 91).run Try.prog w = .ok 1 w := fun w => by kernel_rfl
theorem Sc91 : Scal Try.prog 91 := fun w => ⟨by kernel_rfl, Sz91 w⟩
theorem El91 : ElemT Try.prog 91 79 4 32 [.int .i64 0, .int .i64 0, .int .i64 0, .int .i64 0] := elemT_of (by kernel_rfl)
theorem Is91 : IdxS Try.prog 91 79 4 := ⟨Try.underlying91, by kernel_rfl⟩
theorem Zr91 : ZeroT Try.prog 91 [.slice none 0 0] := ⟨.slice none 0 0, fun w => by kernel_rfl, rfl⟩
theorem Sz92 : ∀ w, (sizeOf 92).run Try.prog w = .ok 1 w := fun w => by kernel_rfl
theorem Sc92 : Scal Try.prog 92 := fun w => ⟨by kernel_rfl, Sz92 w⟩
theorem El92 : ElemT Try.prog 92 4 1 1 [.bool false] := elemT_of (by kernel_rfl)
theorem Is92 : IdxS Try.prog 92 4 1 := ⟨Try.underlying92, by kernel_rfl⟩
theorem Zr92 : ZeroT Try.prog 92 [.slice none 0 0] := ⟨.slice none 0 0, fun w => by kernel_rfl, rfl⟩
theorem Sz100 : ∀ w, (sizeOf 100).run Try.prog w = .ok 1 w := fun w => by kernel_rfl
theorem Sc100 : Scal Try.prog 100 := fun w => ⟨by kernel_rfl, Sz100 w⟩
theorem Zr100 : ZeroT Try.prog 100 [.pointer none] := ⟨.pointer none, fun w => by kernel_rfl, rfl⟩
theorem Sz106 : ∀ w, (sizeOf 106).run Try.prog w = .ok 1 w := fun w => by kernel_rfl
theorem Sc106 : Scal Try.prog 106 := fun w => ⟨by kernel_rfl, Sz106 w⟩
theorem Zr106 : ZeroT Try.prog 106 [.nilFunc] := ⟨.nilFunc, fun w => by kernel_rfl, rfl⟩
theorem Sz110 : ∀ w, (sizeOf 110).run Try.prog w = .ok 1 w := fun w => by kernel_rfl
theorem Sc110 : Scal Try.prog 110 := fun w => ⟨by kernel_rfl, Sz110 w⟩
theorem Zr110 : ZeroT Try.prog 110 [.pointer none] := ⟨.pointer none, fun w => by kernel_rfl, rfl⟩
theorem Sz113 : ∀ w, (sizeOf 113).run Try.prog w = .ok 1 w := fun w => by kernel_rfl
theorem Sc113 : Scal Try.prog 113 := fun w => ⟨by kernel_rfl, Sz113 w⟩
theorem Zr113 : ZeroT Try.prog 113 [.nilFunc] := ⟨.nilFunc, fun w => by kernel_rfl, rfl⟩
theorem Sz116 : ∀ w, (sizeOf 116).run Try.prog w = .ok 1 w := fun w => by kernel_rfl
theorem Sc116 : Scal Try.prog 116 := fun w => ⟨by kernel_rfl, Sz116 w⟩
theorem El116 : ElemT Try.prog 116 2 1 8 [.int .i64 0] := elemT_of (by kernel_rfl)
theorem Is116 : IdxS Try.prog 116 2 1 := ⟨Try.underlying116, by kernel_rfl⟩
theorem Zr116 : ZeroT Try.prog 116 [.slice none 0 0] := ⟨.slice none 0 0, fun w => by kernel_rfl, rfl⟩
theorem Sz120 : ∀ w, (sizeOf 120).run Try.prog w = .ok 3 w := fun w => by kernel_rfl
theorem Ag120 : Aggr Try.prog 120 3 := fun w => ⟨by kernel_rfl, Sz120 w⟩
theorem Fo120_0 : FOff Try.prog 120 0 0 := ⟨0, by kernel_rfl⟩
theorem Fo120_1 : FOff Try.prog 120 1 1 := ⟨0, by kernel_rfl⟩
theorem Fo120_2 : FOff Try.prog 120 2 2 := ⟨0, by kernel_rfl⟩
theorem Pl120 : Places Try.prog 120 [(0, 1), (1, 1), (2, 1)] := ⟨_, Try.underlying120, fun w => by kernel_rfl⟩
theorem Zr120 : ZeroT Try.prog 120 [.slice none 0 0, .int .i64 0, .int .u64 0] := ⟨.agg #[.slice none 0 0, .int .i64 0, .int .u64 0], fun w => by kernel_rfl, rfl⟩
theorem Sz121 : ∀ w, (sizeOf 121).run Try.prog w = .ok 3 w := fun w => by kernel_rfl
theorem Ag121 : Aggr Try.prog 121 3 := fun w => ⟨by kernel_rfl, Sz121 w⟩
theorem Fo121_0 : FOff Try.prog 121 0 0 := ⟨0, by kernel_rfl⟩
theorem Fo121_1 : FOff Try.prog 121 1 1 := ⟨0, by kernel_rfl⟩
theorem Fo121_2 : FOff Try.prog 121 2 2 := ⟨0, by kernel_rfl⟩
theorem Pl121 : Places Try.prog 121 [(0, 1), (1, 1), (2, 1)] := ⟨_, Try.underlying121, fun w => by kernel_rfl⟩
theorem Zr121 : ZeroT Try.prog 121 [.slice none 0 0, .int .i64 0, .int .u64 0] := ⟨.agg #[.slice none 0 0, .int .i64 0, .int .u64 0], fun w => by kernel_rfl, rfl⟩
theorem Sz127 : ∀ w, (sizeOf 127).run Try.prog w = .ok 2 w := fun w => by kernel_rfl
theorem Ag127 : Aggr Try.prog 127 2 := fun w => ⟨by kernel_rfl, Sz127 w⟩
theorem Fo127_0 : FOff Try.prog 127 0 0 := ⟨0, by kernel_rfl⟩
theorem Fo127_1 : FOff Try.prog 127 1 1 := ⟨0, by kernel_rfl⟩
theorem Pl127 : Places Try.prog 127 [(0, 1), (1, 1)] := ⟨_, Try.underlying127, fun w => by kernel_rfl⟩
theorem Zr127 : ZeroT Try.prog 127 [.int .i64 0, .slice none 0 0] := ⟨.agg #[.int .i64 0, .slice none 0 0], fun w => by kernel_rfl, rfl⟩
theorem Sz128 : ∀ w, (sizeOf 128).run Try.prog w = .ok 2 w := fun w => by kernel_rfl
theorem Ag128 : Aggr Try.prog 128 2 := fun w => ⟨by kernel_rfl, Sz128 w⟩
theorem Fo128_0 : FOff Try.prog 128 0 0 := ⟨0, by kernel_rfl⟩
theorem Fo128_1 : FOff Try.prog 128 1 1 := ⟨0, by kernel_rfl⟩
theorem Pl128 : Places Try.prog 128 [(0, 1), (1, 1)] := ⟨_, Try.underlying128, fun w => by kernel_rfl⟩
theorem Zr128 : ZeroT Try.prog 128 [.int .i64 0, .slice none 0 0] := ⟨.agg #[.int .i64 0, .slice none 0 0], fun w => by kernel_rfl, rfl⟩
theorem Sz130 : ∀ w, (sizeOf 130).run Try.prog w = .ok 1 w := fun w => by kernel_rfl
theorem Sc130 : Scal Try.prog 130 := fun w => ⟨by kernel_rfl, Sz130 w⟩
theorem El130 : ElemT Try.prog 130 133 2 32 [.int .i64 0, .slice none 0 0] := elemT_of (by kernel_rfl)
theorem Is130 : IdxS Try.prog 130 133 2 := ⟨Try.underlying130, by kernel_rfl⟩
theorem Zr130 : ZeroT Try.prog 130 [.slice none 0 0] := ⟨.slice none 0 0, fun w => by kernel_rfl, rfl⟩
theorem Sz132 : ∀ w, (sizeOf 132).run Try.prog w = .ok 2 w := fun w => by kernel_rfl
theorem Ag132 : Aggr Try.prog 132 2 := fun w => ⟨by kernel_rfl, Sz132 w⟩
theorem Fo132_0 : FOff Try.prog 132 0 0 := ⟨0, by kernel_rfl⟩
theorem Fo132_1 : FOff Try.prog 132 1 1 := ⟨0, by kernel_rfl⟩
theorem Pl132 : Places Try.prog 132 [(0, 1), (1, 1)] := ⟨_, Try.underlying132, fun w => by kernel_rfl⟩
theorem Zr132 : ZeroT Try.prog 132 [.int .i64 0, .slice none 0 0] := ⟨.agg #[.int .i64 0, .slice none 0 0], fun w => by kernel_rfl, rfl⟩
theorem Sz133 : ∀ w, (sizeOf 133).run Try.prog w = .ok 2 w := fun w => by kernel_rfl
theorem Ag133 : Aggr Try.prog 133 2 := fun w => ⟨by kernel_rfl, Sz133 w⟩
theorem Fo133_0 : FOff Try.prog 133 0 0 := ⟨0, by kernel_rfl⟩
theorem Fo133_1 : FOff Try.prog 133 1 1 := ⟨0, by kernel_rfl⟩
theorem Pl133 : Places Try.prog 133 [(0, 1), (1, 1)] := ⟨_, Try.underlying133, fun w => by kernel_rfl⟩
theorem Zr133 : ZeroT Try.prog 133 [.int .i64 0, .slice none 0 0] := ⟨.agg #[.int .i64 0, .slice none 0 0], fun w => by kernel_rfl, rfl⟩
theorem Sz136 : ∀ w, (sizeOf 136).run Try.prog w = .ok 1 w := fun w => by kernel_rfl
theorem Sc136 : Scal Try.prog 136 := fun w => ⟨by kernel_rfl, Sz136 w⟩
theorem El136 : ElemT Try.prog 136 140 6 48 [.int .i64 0, .int .i64 0, .int .i64 0, .int .i64 0, .int .i64 0, .bool false] := elemT_of (by kernel_rfl)
theorem Is136 : IdxS Try.prog 136 140 6 := ⟨Try.underlying136, by kernel_rfl⟩
theorem Zr136 : ZeroT Try.prog 136 [.slice none 0 0] := ⟨.slice none 0 0, fun w => by kernel_rfl, rfl⟩
theorem Sz139 : ∀ w, (sizeOf 139).run Try.prog w = .ok 6 w := fun w => by kernel_rfl
theorem Ag139 : Aggr Try.prog 139 6 := fun w => ⟨by kernel_rfl, Sz139 w⟩
theorem Fo139_0 : FOff Try.prog 139 0 0 := ⟨3, by kernel_rfl⟩
theorem Fo139_1 : FOff Try.prog 139 1 4 := ⟨0, by kernel_rfl⟩
theorem Fo139_2 : FOff Try.prog 139 2 5 := ⟨0, by kernel_rfl⟩
theorem Pl139 : Places Try.prog 139 [(0, 4), (4, 1), (5, 1)] := ⟨_, Try.underlying139, fun w => by kernel_rfl⟩
theorem Zr139 : ZeroT Try.prog 139 [.int .i64 0, .int .i64 0, .int .i64 0, .int .i64 0, .int .i64 0, .bool false] := ⟨.agg #[.int .i64 0, .int .i64 0, .int .i64 0, .int .i64 0, .int .i64 0, .bool false], fun w => by kernel_rfl, rfl⟩
theorem Sz140 : ∀ w, (sizeOf 140).run Try.prog w = .ok 6 w := fun w => by kernel_rfl
theorem Ag140 : Aggr Try.prog 140 6 := fun w => ⟨by kernel_rfl, Sz140 w⟩
theorem Fo140_0 : FOff Try.prog 140 0 0 := ⟨3, by kernel_rfl⟩
theorem Fo140_1 : FOff Try.prog 140 1 4 := ⟨0, by kernel_rfl⟩
theorem Fo140_2 : FOff Try.prog 140 2 5 := ⟨0, by kernel_rfl⟩
theorem Pl140 : Places Try.prog 140 [(0, 4), (4, 1), (5, 1)] := ⟨_, Try.underlying140, fun w => by kernel_rfl⟩
theorem Zr140 : ZeroT Try.prog 140 [.int .i64 0, .int .i64 0, .int .i64 0, .int .i64 0, .int .i64 0, .bool false] := ⟨.agg #[.int .i64 0, .int .i64 0, .int .i64 0, .int .i64 0, .int .i64 0, .bool false], fun w => by kernel_rfl, rfl⟩
theorem Sz155 : ∀ w, (sizeOf 155).run Try.prog w = .ok 3 w := fun w => by kernel_rfl
theorem Ag155 : Aggr Try.prog 155 3 := fun w => ⟨by kernel_rfl, Sz155 w⟩
theorem Fo155_0 : FOff Try.prog 155 0 0 := ⟨0, by kernel_rfl⟩
theorem Fo155_1 : FOff Try.prog 155 1 1 := ⟨0, by kernel_rfl⟩
theorem Fo155_2 : FOff Try.prog 155 2 2 := ⟨0, by kernel_rfl⟩
theorem Pl155 : Places Try.prog 155 [(0, 1), (1, 1), (2, 1)] := ⟨_, Try.underlying155, fun w => by kernel_rfl⟩
theorem Zr155 : ZeroT Try.prog 155 [.slice none 0 0, .int .i64 0, .int .i64 0] := ⟨.agg #[.slice none 0 0, .int .i64 0, .int .i64 0], fun w => by kernel_rfl, rfl⟩
theorem Sz156 : ∀ w, (sizeOf 156).run Try.prog w = .ok 3 w := fun w => by kernel_rfl
theorem Ag156 : Aggr Try.prog 156 3 := fun w => ⟨by kernel_rfl, Sz156 w⟩
theorem Fo156_0 : FOff Try.prog 156 0 0 := ⟨0, by kernel_rfl⟩
theorem Fo156_1 : FOff Try.prog 156 1 1 := ⟨0, by kernel_rfl⟩
theorem Fo156_2 : FOff Try.prog 156 2 2 := ⟨0, by kernel_rfl⟩
theorem Pl156 : Places Try.prog 156 [(0, 1), (1, 1), (2, 1)] := ⟨_, Try.underlying156, fun w => by kernel_rfl⟩
theorem Zr156 : ZeroT Try.prog 156 [.slice none 0 0, .int .i64 0, .int .i64 0] := ⟨.agg #[.slice none 0 0, .int .i64 0, .int .i64 0], fun w => by kernel_rfl, rfl⟩
theorem Sz163 : ∀ w, (sizeOf 163).run Try.prog w = .ok 1 w := fun w => by kernel_rfl
theorem Sc163 : Scal Try.prog 163 := fun w => ⟨by kernel_rfl, Sz163 w⟩
theorem Zr163 : ZeroT Try.prog 163 [.nilFunc] := ⟨.nilFunc, fun w => by kernel_rfl, rfl⟩
theorem Sz166 : ∀ w, (sizeOf 166).run Try.prog w = .ok 80 w := fun w => by kernel_rfl
theorem Ag166 : Aggr Try.prog 166 80 := fun w => ⟨by kernel_rfl, Sz166 w⟩
theorem Ia166 : IdxA Try.prog 166 80 1 := ⟨4, Try.underlying166, by kernel_rfl⟩
theorem Sz167 : ∀ w, (sizeOf 167).run Try.prog w = .ok 6400 w := fun w => by kernel_rfl
theorem Ag167 : Aggr Try.prog 167 6400 := fun w => ⟨by kernel_rfl, Sz167 w⟩
theorem Ia167 : IdxA Try.prog 167 80 80 := ⟨166, Try.underlying167, by kernel_rfl⟩
theorem Sz168 : ∀ w, (sizeOf 168).run Try.prog w = .ok 6400 w := fun w => by kernel_rfl
theorem Ag168 : Aggr Try.prog 168 6400 := fun w => ⟨by kernel_rfl, Sz168 w⟩
theorem Ia168 : IdxA Try.prog 168 80 80 := ⟨166, Try.underlying168, by kernel_rfl⟩
theorem Sz176 : ∀ w, (sizeOf 176).run Try.prog w = .ok 1 w := fun w => by kernel_rfl
theorem Sc176 : Scal Try.prog 176 := fun w => ⟨by kernel_rfl, Sz176 w⟩
theorem El176 : ElemT Try.prog 176 3 1 8 [.int .i64 0] := elemT_of (by kernel_rfl)
theorem Is176 : IdxS Try.prog 176 3 1 := ⟨Try.underlying176, by kernel_rfl⟩
theorem Zr176 : ZeroT Try.prog 176 [.slice none 0 0] := ⟨.slice none 0 0, fun w => by kernel_rfl, rfl⟩
theorem Sz182 : ∀ w, (sizeOf 182).run Try.prog w = .ok 1 w := fun w => by kernel_rfl
theorem Sc182 : Scal Try.prog 182 := fun w => ⟨by kernel_rfl, Sz182 w⟩
theorem Zr182 : ZeroT Try.prog 182 [.nilFunc] := ⟨.nilFunc, fun w => by kernel_rfl, rfl⟩
theorem Sz183 : ∀ w, (sizeOf 183).run Try.prog w = .ok 1 w := fun w => by kernel_rfl
theorem Sc183 : Scal Try.prog 183 := fun w => ⟨by kernel_rfl, Sz183 w⟩
theorem Zr183 : ZeroT Try.prog 183 [.nilFunc] := ⟨.nilFunc, fun w => by kernel_rfl, rfl⟩
theorem Sz184 : ∀ w, (sizeOf 184).run Try.prog w = .ok 1 w := fun w => by kernel_rfl
theorem Sc184 : Scal Try.prog 184 := fun w => ⟨by kernel_rfl, Sz184 w⟩
theorem Zr184 : ZeroT Try.prog 184 [.int .u64 0] := ⟨.int .u64 0, fun w => by kernel_rfl, rfl⟩
theorem Sz186 : ∀ w, (sizeOf 186).run Try.prog w = .ok 1 w := fun w => by kernel_rfl
theorem Sc186 : Scal Try.prog 186 := fun w => ⟨by kernel_rfl, Sz186 w⟩
theorem El186 : ElemT Try.prog 186 92 1 24 [.slice none 0 0] := elemT_of (by kernel_rfl)
theorem Is186 : IdxS Try.prog 186 92 1 := ⟨Try.underlying186, by kernel_rfl⟩
theorem Zr186 : ZeroT Try.prog 186 [.slice none 0 0] := ⟨.slice none 0 0, fun w => by kernel_rfl, rfl⟩
theorem Sz194 : ∀ w, (sizeOf 194).run Try.prog w = .ok 1 w := fun w => by kernel_rfl
theorem Sc194 : Scal Try.prog 194 := fun w => ⟨by kernel_rfl, Sz194 w⟩
theorem Zr194 : ZeroT Try.prog 194 [.nilFunc] := ⟨.nilFunc, fun w => by kernel_rfl, rfl⟩
theorem Sz207 : ∀ w, (sizeOf 207).run Try.prog w = .ok 1 w := fun w => by kernel_rfl
theorem Sc207 : Scal Try.prog 207 := fun w => ⟨by kernel_rfl, Sz207 w⟩
theorem El207 : ElemT Try.prog 207 64 2 16 [.int .i64 0, .int .i64 0] := elemT_of (by kernel_rfl)
theorem Is207 : IdxS Try.prog 207 64 2 := ⟨Try.underlying207, by kernel_rfl⟩
theorem Zr207 : ZeroT Try.prog 207 [.slice none 0 0] := ⟨.slice none 0 0, fun w => by kernel_rfl, rfl⟩
theorem Sz217 : ∀ w, (sizeOf 217).run Try.prog w = .ok 1 w := fun w => by kernel_rfl
theorem Sc217 : Scal Try.prog 217 := fun w => ⟨by kernel_rfl, Sz217 w⟩
theorem Zr217 : ZeroT Try.prog 217 [.nilFunc] := ⟨.nilFunc, fun w => by kernel_rfl, rfl⟩
theorem Sz218 : ∀ w, (sizeOf 218).run Try.prog w = .ok 2 w := fun w => by kernel_rfl
theorem Ag218 : Aggr Try.prog 218 2 := fun w => ⟨by kernel_rfl, Sz218 w⟩
theorem Ia218 : IdxA Try.prog 218 2 1 := ⟨3, Try.underlying218, by kernel_rfl⟩
theorem Sz219 : ∀ w, (sizeOf 219).run Try.prog w = .ok 1 w := fun w => by kernel_rfl
theorem Sc219 : Scal Try.prog 219 := fun w => ⟨by kernel_rfl, Sz219 w⟩
theorem El219 : ElemT Try.prog 219 218 2 16 [.int .i64 0, .int .i64 0] := elemT_of (by kernel_rfl)
theorem Is219 : IdxS Try.prog 219 218 2 := ⟨Try.underlying219, by kernel_rfl⟩
theorem Zr219 : ZeroT Try.prog 219 [.slice none 0 0] := ⟨.slice none 0 0, fun w => by kernel_rfl, rfl⟩
theorem Sz225 : ∀ w, (sizeOf 225).run Try.prog w = .ok 1 w := fun w => by kernel_rfl
theorem Sc225 : Scal Try.prog 225 := fun w => ⟨by kernel_rfl, Sz225 w⟩
theorem Zr225 : ZeroT Try.prog 225 [.int .i64 0] := ⟨.int .i64 0, fun w => by kernel_rfl, rfl⟩
theorem Sz233 : ∀ w, (sizeOf 233).run Try.prog w = .ok 1 w := fun w => by kernel_rfl
theorem Sc233 : Scal Try.prog 233 := fun w => ⟨by kernel_rfl, Sz233 w⟩
theorem Zr233 : ZeroT Try.prog 233 [.int .u32 0] := ⟨.int .u32 0, fun w => by kernel_rfl, rfl⟩
theorem Sz235 : ∀ w, (sizeOf 235).run Try.prog w = .ok 1 w := fun w => by kernel_rfl
theorem Sc235 : Scal Try.prog 235 := fun w => ⟨by kernel_rfl, Sz235 w⟩
theorem Zr235 : ZeroT Try.prog 235 [.int .u64 0] := ⟨.int .u64 0, fun w => by kernel_rfl, rfl⟩
theorem Sz239 : ∀ w, (sizeOf 239).run Try.prog w = .ok 1 w := fun w => by kernel_rfl
theorem Sc239 : Scal Try.prog 239 := fun w => ⟨by kernel_rfl, Sz239 w⟩
theorem Zr239 : ZeroT Try.prog 239 [.pointer none] := ⟨.pointer none, fun w => by kernel_rfl, rfl⟩
theorem En3 : Ent Try.prog 3 := ent_of Try.func3 (by kernel_rfl) (by kernel_rfl)
theorem En4 : Ent Try.prog 4 := ent_of Try.func4 (by kernel_rfl) (by kernel_rfl)
theorem En5 : Ent Try.prog 5 := ent_of Try.func5 (by kernel_rfl) (by kernel_rfl)
theorem En6 : Ent Try.prog 6 := ent_of Try.func6 (by kernel_rfl) (by kernel_rfl)
theorem En7 : Ent Try.prog 7 := ent_of Try.func7 (by kernel_rfl) (by kernel_rfl)
theorem En8 : Ent Try.prog 8 := ent_of Try.func8 (by kernel_rfl) (by kernel_rfl)
theorem En9 : Ent Try.prog 9 := ent_of Try.func9 (by kernel_rfl) (by kernel_rfl)
theorem En10 : Ent Try.prog 10 := ent_of Try.func10 (by kernel_rfl) (by kernel_rfl)
theorem En11 : Ent Try.prog 11 := ent_of Try.func11 (by kernel_rfl) (by kernel_rfl)
theorem En12 : Ent Try.prog 12 := ent_of Try.func12 (by kernel_rfl) (by kernel_rfl)
theorem En13 : Ent Try.prog 13 := ent_of Try.func13 (by kernel_rfl) (by kernel_rfl)
theorem En14 : Ent Try.prog 14 := ent_of Try.func14 (by kernel_rfl) (by kernel_rfl)
theorem En15 : Ent Try.prog 15 := ent_of Try.func15 (by kernel_rfl) (by kernel_rfl)
theorem En16 : Ent Try.prog 16 := ent_of Try.func16 (by kernel_rfl) (by kernel_rfl)
theorem En17 : Ent Try.prog 17 := ent_of Try.func17 (by kernel_rfl) (by kernel_rfl)
theorem En18 : Ent Try.prog 18 := ent_of Try.func18 (by kernel_rfl) (by kernel_rfl)
theorem En19 : Ent Try.prog 19 := ent_of Try.func19 (by kernel_rfl) (by kernel_rfl)
theorem En20 : Ent Try.prog 20 := ent_of Try.func20 (by kernel_rfl) (by kernel_rfl)
theorem En21 : Ent Try.prog 21 := ent_of Try.func21 (by kernel_rfl) (by kernel_rfl)
theorem En22 : Ent Try.prog 22 := ent_of Try.func22 (by kernel_rfl) (by kernel_rfl)
theorem En23 : Ent Try.prog 23 := ent_of Try.func23 (by kernel_rfl) (by kernel_rfl)
theorem En24 : Ent Try.prog 24 := ent_of Try.func24 (by kernel_rfl) (by kernel_rfl)
theorem En25 : Ent Try.prog 25 := ent_of Try.func25 (by kernel_rfl) (by kernel_rfl)
theorem En26 : Ent Try.prog 26 := ent_of Try.func26 (by kernel_rfl) (by kernel_rfl)
theorem En27 : Ent Try.prog 27 := ent_of Try.func27 (by kernel_rfl) (by kernel_rfl)
theorem En28 : Ent Try.prog 28 := ent_of Try.func28 (by kernel_rfl) (by kernel_rfl)
theorem En29 : Ent Try.prog 29 := ent_of Try.func29 (by kernel_rfl) (by kernel_rfl)
theorem En30 : Ent Try.prog 30 := ent_of Try.func30 (by kernel_rfl) (by kernel_rfl)
theorem En31 : Ent Try.prog 31 := ent_of Try.func31 (by kernel_rfl) (by kernel_rfl)
theorem En32 : Ent Try.prog 32 := ent_of Try.func32 (by kernel_rfl) (by kernel_rfl)
theorem En33 : Ent Try.prog 33 := ent_of Try.func33 (by kernel_rfl) (by kernel_rfl)
theorem En34 : Ent Try.prog 34 := ent_of Try.func34 (by kernel_rfl) (by kernel_rfl)
theorem En35 : Ent Try.prog 35 := ent_of Try.func35 (by kernel_rfl) (by kernel_rfl)
theorem En36 : Ent Try.prog 36 := ent_of Try.func36 (by kernel_rfl) (by kernel_rfl)
theorem En37 : Ent Try.prog 37 := ent_of Try.func37 (by kernel_rfl) (by kernel_rfl)
theorem En38 : Ent Try.prog 38 := ent_of Try.func38 (by kernel_rfl) (by kernel_rfl)
theorem En39 : Ent Try.prog 39 := ent_of Try.func39 (by kernel_rfl) (by kernel_rfl)
theorem En40 : Ent Try.prog 40 := ent_of Try.func40 (by kernel_rfl) (by kernel_rfl)
theorem En41 : Ent Try.prog 41 := ent_of Try.func41 (by kernel_rfl) (by kernel_rfl)
theorem En42 : Ent Try.prog 42 := ent_of Try.func42 (by kernel_rfl) (by kernel_rfl)
theorem En43 : Ent Try.prog 43 := ent_of Try.func43 (by kernel_rfl) (by kernel_rfl)
theorem En44 : Ent Try.prog 44 := ent_of Try.func44 (by kernel_rfl) (by kernel_rfl)
theorem En45 : Ent Try.prog 45 := ent_of Try.func45 (by kernel_rfl) (by kernel_rfl)
theorem En46 : Ent Try.prog 46 := ent_of Try.func46 (by kernel_rfl) (by kernel_rfl)
theorem En47 : Ent Try.prog 47 := ent_of Try.func47 (by kernel_rfl) (by kernel_rfl)
theorem En48 : Ent Try.prog 48 := ent_of Try.func48 (by kernel_rfl) (by kernel_rfl)
theorem En49 : Ent Try.prog 49 := ent_of Try.func49 (by kernel_rfl) (by kernel_rfl)
theorem En50 : Ent Try.prog 50 := ent_of Try.func50 (by kernel_rfl) (by kernel_rfl)
theorem En51 : Ent Try.prog 51 := ent_of Try.func51 (by kernel_rfl) (by kernel_rfl)
theorem En52 : Ent Try.prog 52 := ent_of Try.func52 (by kernel_rfl) (by kernel_rfl)
theorem En53 : Ent Try.prog 53 := ent_of Try.func53 (by kernel_rfl) (by kernel_rfl)
theorem En54 : Ent Try.prog 54 := ent_of Try.func54 (by kernel_rfl) (by kernel_rfl)
theorem En55 : Ent Try.prog 55 := ent_of Try.func55 (by kernel_rfl) (by kernel_rfl)
theorem En56 : Ent Try.prog 56 := ent_of Try.func56 (by kernel_rfl) (by kernel_rfl)
theorem En57 : Ent Try.prog 57 := ent_of Try.func57 (by kernel_rfl) (by kernel_rfl)
theorem En58 : Ent Try.prog 58 := ent_of Try.func58 (by kernel_rfl) (by kernel_rfl)
theorem En59 : Ent Try.prog 59 := ent_of Try.func59 (by kernel_rfl) (by kernel_rfl)
theorem En60 : Ent Try.prog 60 := ent_of Try.func60 (by kernel_rfl) (by kernel_rfl)
theorem En61 : Ent Try.prog 61 := ent_of Try.func61 (by kernel_rfl) (by kernel_rfl)
theorem En62 : Ent Try.prog 62 := ent_of Try.func62 (by kernel_rfl) (by kernel_rfl)
theorem En63 : Ent Try.prog 63 := ent_of Try.func63 (by kernel_rfl) (by kernel_rfl)
theorem En64 : Ent Try.prog 64 := ent_of Try.func64 (by kernel_rfl) (by kernel_rfl)
theorem En65 : Ent Try.prog 65 := ent_of Try.func65 (by kernel_rfl) (by kernel_rfl)
theorem En66 : Ent Try.prog 66 := ent_of Try.func66 (by kernel_rfl) (by kernel_rfl)
theorem En67 : Ent Try.prog 67 := ent_of Try.func67 (by kernel_rfl) (by kernel_rfl)
theorem En68 : Ent Try.prog 68 := ent_of Try.func68 (by kernel_rfl) (by kernel_rfl)
theorem En69 : Ent Try.prog 69 := ent_of Try.func69 (by kernel_rfl) (by kernel_rfl)
theorem En70 : Ent Try.prog 70 := ent_of Try.func70 (by kernel_rfl) (by kernel_rfl)
theorem En71 : Ent Try.prog 71 := ent_of Try.func71 (by kernel_rfl) (by kernel_rfl)
theorem En72 : Ent Try.prog 72 := ent_of Try.func72 (by kernel_rfl) (by kernel_rfl)
theorem En73 : Ent Try.prog 73 := ent_of Try.func73 (by kernel_rfl) (by kernel_rfl)
theorem En74 : Ent Try.prog 74 := ent_of Try.func74 (by kernel_rfl) (by kernel_rfl)
theorem En75 : Ent Try.prog 75 := ent_of Try.func75 (by kernel_rfl) (by kernel_rfl)
theorem En76 : Ent Try.prog 76 := ent_of Try.func76 (by kernel_rfl) (by kernel_rfl)
theorem En77 : Ent Try.prog 77 := ent_of Try.func77 (by kernel_rfl) (by kernel_rfl)
theorem En78 : Ent Try.prog 78 := ent_of Try.func78 (by kernel_rfl) (by kernel_rfl)
theorem En79 : Ent Try.prog 79 := ent_of Try.func79 (by kernel_rfl) (by kernel_rfl)
theorem En80 : Ent Try.prog 80 := ent_of Try.func80 (by kernel_rfl) (by kernel_rfl)
theorem En81 : Ent Try.prog 81 := ent_of Try.func81 (by kernel_rfl) (by kernel_rfl)
theorem En82 : Ent Try.prog 82 := ent_of Try.func82 (by kernel_rfl) (by kernel_rfl)
theorem En83 : Ent Try.prog 83 := ent_of Try.func83 (by kernel_rfl) (by kernel_rfl)
theorem En84 : Ent Try.prog 84 := ent_of Try.func84 (by kernel_rfl) (by kernel_rfl)
theorem En85 : Ent Try.prog 85 := ent_of Try.func85 (by kernel_rfl) (by kernel_rfl)
theorem En86 : Ent Try.prog 86 := ent_of Try.func86 (by kernel_rfl) (by kernel_rfl)
theorem En87 : Ent Try.prog 87 := ent_of Try.func87 (by kernel_rfl) (by kernel_rfl)
theorem En88 : Ent Try.prog 88 := ent_of Try.func88 (by kernel_rfl) (by kernel_rfl)
theorem En89 : Ent Try.prog 89 := ent_of Try.func89 (by kernel_rfl) (by kernel_rfl)
theorem En90 : Ent Try.prog 90 := ent_of Try.func90 (by kernel_rfl) (by kernel_rfl)
theorem En91 : Ent Try.prog 91 := ent_of Try.func91 (by kernel_rfl) (by kernel_rfl)
theorem En92 : Ent Try.prog 92 := ent_of Try.func92 (by kernel_rfl) (by kernel_rfl)
theorem En93 : Ent Try.prog 93 := ent_of Try.func93 (by kernel_rfl) (by kernel_rfl)
theorem En94 : Ent Try.prog 94 := ent_of Try.func94 (by kernel_rfl) (by kernel_rfl)
theorem En95 : Ent Try.prog 95 := ent_of Try.func95 (by kernel_rfl) (by kernel_rfl)
theorem En96 : Ent Try.prog 96 := ent_of Try.func96 (by kernel_rfl) (by kernel_rfl)
theorem En97 : Ent Try.prog 97 := ent_of Try.func97 (by kernel_rfl) (by kernel_rfl)
theorem En98 : Ent Try.prog 98 := ent_of Try.func98 (by kernel_rfl) (by kernel_rfl)
theorem En99 : Ent Try.prog 99 := ent_of Try.func99 (by kernel_rfl) (by kernel_rfl)
theorem En100 : Ent Try.prog 100 := ent_of Try.func100 (by kernel_rfl) (by kernel_rfl)
theorem En101 : Ent Try.prog 101 := ent_of Try.func101 (by kernel_rfl) (by kernel_rfl)
theorem En102 : Ent Try.prog 102 := ent_of Try.func102 (by kernel_rfl) (by kernel_rfl)
theorem En103 : Ent Try.prog 103 := ent_of Try.func103 (by kernel_rfl) (by kernel_rfl)
theorem En104 : Ent Try.prog 104 := ent_of Try.func104 (by kernel_rfl) (by kernel_rfl)
theorem En105 : Ent Try.prog 105 := ent_of Try.func105 (by kernel_rfl) (by kernel_rfl)
theorem En106 : Ent Try.prog 106 := ent_of Try.func106 (by kernel_rfl) (by kernel_rfl)
theorem En107 : Ent Try.prog 107 := ent_of Try.func107 (by kernel_rfl) (by kernel_rfl)
theorem En108 : Ent Try.prog 108 := ent_of Try.func108 (by kernel_rfl) (by kernel_rfl)
theorem En109 : Ent Try.prog 109 := ent_of Try.func109 (by kernel_rfl) (by kernel_rfl)
theorem En110 : Ent Try.prog 110 := ent_of Try.func110 (by kernel_rfl) (by kernel_rfl)
theorem En111 : Ent Try.prog 111 := ent_of Try.func111 (by kernel_rfl) (by kernel_rfl)
theorem En112 : Ent Try.prog 112 := ent_of Try.func112 (by kernel_rfl) (by kernel_rfl)
theorem En113 : Ent Try.prog 113 := ent_of Try.func113 (by kernel_rfl) (by kernel_rfl)
theorem En114 : Ent Try.prog 114 := ent_of Try.func114 (by kernel_rfl) (by kernel_rfl)
theorem En115 : Ent Try.prog 115 := ent_of Try.func115 (by kernel_rfl) (by kernel_rfl)
theorem En116 : Ent Try.prog 116 := ent_of Try.func116 (by kernel_rfl) (by kernel_rfl)
theorem En117 : Ent Try.prog 117 := ent_of Try.func117 (by kernel_rfl) (by kernel_rfl)
theorem En118 : Ent Try.prog 118 := ent_of Try.func118 (by kernel_rfl) (by kernel_rfl)
theorem En119 : Ent Try.prog 119 := ent_of Try.func119 (by kernel_rfl) (by kernel_rfl)
theorem En120 : Ent Try.prog 120 := ent_of Try.func120 (by kernel_rfl) (by kernel_rfl)
theorem En121 : Ent Try.prog 121 := ent_of Try.func121 (by kernel_rfl) (by kernel_rfl)
theorem En122 : Ent Try.prog 122 := ent_of Try.func122 (by kernel_rfl) (by kernel_rfl)
theorem En123 : Ent Try.prog 123 := ent_of Try.func123 (by kernel_rfl) (by kernel_rfl)
theorem En124 : Ent Try.prog 124 := ent_of Try.func124 (by kernel_rfl) (by kernel_rfl)
theorem En125 : Ent Try.prog 125 := ent_of Try.func125 (by kernel_rfl) (by kernel_rfl)
theorem En126 : Ent Try.prog 126 := ent_of Try.func126 (by kernel_rfl) (by kernel_rfl)
theorem En127 : Ent Try.prog 127 := ent_of Try.func127 (by kernel_rfl) (by kernel_rfl)
theorem En128 : Ent Try.prog 128 := ent_of Try.func128 (by kernel_rfl) (by kernel_rfl)
theorem En129 : Ent Try.prog 129 := ent_of Try.func129 (by kernel_rfl) (by kernel_rfl)
theorem En130 : Ent Try.prog 130 := ent_of Try.func130 (by kernel_rfl) (by kernel_rfl)
theorem En131 : Ent Try.prog 131 := ent_of Try.func131 (by kernel_rfl) (by kernel_rfl)
theorem En132 : Ent Try.prog 132 := ent_of Try.func132 (by kernel_rfl) (by kernel_rfl)
theorem En133 : Ent Try.prog 133 := ent_of Try.func133 (by kernel_rfl) (by kernel_rfl)
theorem En134 : Ent Try.prog 134 := ent_of Try.func134 (by kernel_rfl) (by kernel_rfl)
theorem En135 : Ent Try.prog 135 := ent_of Try.func135 (by kernel_rfl) (by kernel_rfl)
theorem En136 : Ent Try.prog 136 := ent_of Try.func136 (by kernel_rfl) (by kernel_rfl)
theorem En137 : Ent Try.prog 137 := ent_of Try.func137 (by kernel_rfl) (by kernel_rfl)
theorem En138 : Ent Try.prog 138 := ent_of Try.func138 (by kernel_rfl) (by kernel_rfl)
theorem En139 : Ent Try.prog 139 := ent_of Try.func139 (by kernel_rfl) (by kernel_rfl)
theorem En140 : Ent Try.prog 140 := ent_of Try.func140 (by kernel_rfl) (by kernel_rfl)
theorem En141 : Ent Try.prog 141 := ent_of Try.func141 (by kernel_rfl) (by kernel_rfl)
theorem En142 : Ent Try.prog 142 := ent_of Try.func142 (by kernel_rfl) (by kernel_rfl)
theorem En143 : Ent Try.prog 143 := ent_of Try.func143 (by kernel_rfl) (by kernel_rfl)
theorem En144 : Ent Try.prog 144 := ent_of Try.func144 (by kernel_rfl) (by kernel_rfl)
theorem En145 : Ent Try.prog 145 := ent_of Try.func145 (by kernel_rfl) (by kernel_rfl)
theorem En146 : Ent Try.prog 146 := ent_of Try.func146 (by kernel_rfl) (by kernel_rfl)
theorem En147 : Ent Try.prog 147 := ent_of Try.func147 (by kernel_rfl) (by kernel_rfl)
theorem En148 : Ent Try.prog 148 := ent_of Try.func148 (by kernel_rfl) (by kernel_rfl)
theorem En149 : Ent Try.prog 149 := ent_of Try.func149 (by kernel_rfl) (by kernel_rfl)
theorem En150 : Ent Try.prog 150 := ent_of Try.func150 (by kernel_rfl) (by kernel_rfl)
theorem En151 : Ent Try.prog 151 := ent_of Try.func151 (by kernel_rfl) (by kernel_rfl)
theorem En152 : Ent Try.prog 152 := ent_of Try.func152 (by kernel_rfl) (by kernel_rfl)
theorem En153 : Ent Try.prog 153 := ent_of Try.func153 (by kernel_rfl) (by kernel_rfl)
theorem En154 : Ent Try.prog 154 := ent_of Try.func154 (by kernel_rfl) (by kernel_rfl)
theorem En155 : Ent Try.prog 155 := ent_of Try.func155 (by kernel_rfl) (by kernel_rfl)
theorem En156 : Ent Try.prog 156 := ent_of Try.func156 (by kernel_rfl) (by kernel_rfl)
theorem En157 : Ent Try.prog 157 := ent_of Try.func157 (by kernel_rfl) (by kernel_rfl)
theorem En158 : Ent Try.prog 158 := ent_of Try.func158 (by kernel_rfl) (by kernel_rfl)
theorem En159 : Ent Try.prog 159 := ent_of Try.func159 (by kernel_rfl) (by kernel_rfl)
theorem En160 : Ent Try.prog 160 := ent_of Try.func160 (by kernel_rfl) (by kernel_rfl)
theorem En161 : Ent Try.prog 161 := ent_of Try.func161 (by kernel_rfl) (by kernel_rfl)
theorem En162 : Ent Try.prog 162 := ent_of Try.func162 (by kernel_rfl) (by kernel_rfl)
theorem En163 : Ent Try.prog 163 := ent_of Try.func163 (by kernel_rfl) (by kernel_rfl)
theorem En164 : Ent Try.prog 164 := ent_of Try.func164 (by kernel_rfl) (by kernel_rfl)
theorem En165 : Ent Try.prog 165 := ent_of Try.func165 (by kernel_rfl) (by kernel_rfl)
theorem En166 : Ent Try.prog 166 := ent_of Try.func166 (by kernel_rfl) (by kernel_rfl)
theorem En167 : Ent Try.prog 167 := ent_of Try.func167 (by kernel_rfl) (by kernel_rfl)
theorem En168 : Ent Try.prog 168 := ent_of Try.func168 (by kernel_rfl) (by kernel_rfl)
theorem En169 : Ent Try.prog 169 := ent_of Try.func169 (by kernel_rfl) (by kernel_rfl)
theorem En170 : Ent Try.prog 170 := ent_of Try.func170 (by kernel_rfl) (by kernel_rfl)
theorem En171 : Ent Try.prog 171 := ent_of Try.func171 (by kernel_rfl) (by kernel_rfl)
theorem En172 : Ent Try.prog 172 := ent_of Try.func172 (by kernel_rfl) (by kernel_rfl)
theorem En173 : Ent Try.prog 173 := ent_of Try.func173 (by kernel_rfl) (by kernel_rfl)
theorem En174 : Ent Try.prog 174 := ent_of Try.func174 (by kernel_rfl) (by kernel_rfl)
theorem En175 : Ent Try.prog 175 := ent_of Try.func175 (by kernel_rfl) (by kernel_rfl)
theorem En176 : Ent Try.prog 176 := ent_of Try.func176 (by kernel_rfl) (by kernel_rfl)
theorem En177 : Ent Try.prog 177 := ent_of Try.func177 (by kernel_rfl) (by kernel_rfl)
theorem En178 : Ent Try.prog 178 := ent_of Try.func178 (by kernel_rfl) (by kernel_rfl)
theorem En179 : Ent Try.prog 179 := ent_of Try.func179 (by kernel_rfl) (by kernel_rfl)
theorem En180 : Ent Try.prog 180 := ent_of Try.func180 (by kernel_rfl) (by kernel_rfl)
theorem En181 : Ent Try.prog 181 := ent_of Try.func181 (by kernel_rfl) (by kernel_rfl)
theorem En182 : Ent Try.prog 182 := ent_of Try.func182 (by kernel_rfl) (by kernel_rfl)
theorem En183 : Ent Try.prog 183 := ent_of Try.func183 (by kernel_rfl) (by kernel_rfl)
theorem En184 : Ent Try.prog 184 := ent_of Try.func184 (by kernel_rfl) (by kernel_rfl)
theorem En185 : Ent Try.prog 185 := ent_of Try.func185 (by kernel_rfl) (by kernel_rfl)
theorem En186 : Ent Try.prog 186 := ent_of Try.func186 (by kernel_rfl) (by kernel_rfl)
theorem En187 : Ent Try.prog 187 := ent_of Try.func187 (by kernel_rfl) (by kernel_rfl)
theorem En188 : Ent Try.prog 188 := ent_of Try.func188 (by kernel_rfl) (by kernel_rfl)
theorem En189 : Ent Try.prog 189 := ent_of Try.func189 (by kernel_rfl) (by kernel_rfl)
theorem En190 : Ent Try.prog 190 := ent_of Try.func190 (by kernel_rfl) (by kernel_rfl)
theorem En191 : Ent Try.prog 191 := ent_of Try.func191 (by kernel_rfl) (by kernel_rfl)
theorem En192 : Ent Try.prog 192 := ent_of Try.func192 (by kernel_rfl) (by kernel_rfl)
theorem En193 : Ent Try.prog 193 := ent_of Try.func193 (by kernel_rfl) (by kernel_rfl)
theorem En194 : Ent Try.prog 194 := ent_of Try.func194 (by kernel_rfl) (by kernel_rfl)
theorem En195 : Ent Try.prog 195 := ent_of Try.func195 (by kernel_rfl) (by kernel_rfl)
theorem En196 : Ent Try.prog 196 := ent_of Try.func196 (by kernel_rfl) (by kernel_rfl)
theorem En197 : Ent Try.prog 197 := ent_of Try.func197 (by kernel_rfl) (by kernel_rfl)
theorem En198 : Ent Try.prog 198 := ent_of Try.func198 (by kernel_rfl) (by kernel_rfl)
theorem En199 : Ent Try.prog 199 := ent_of Try.func199 (by kernel_rfl) (by kernel_rfl)
theorem En200 : Ent Try.prog 200 := ent_of Try.func200 (by kernel_rfl) (by kernel_rfl)
theorem En201 : Ent Try.prog 201 := ent_of Try.func201 (by kernel_rfl) (by kernel_rfl)
theorem En202 : Ent Try.prog 202 := ent_of Try.func202 (by kernel_rfl) (by kernel_rfl)
theorem En203 : Ent Try.prog 203 := ent_of Try.func203 (by kernel_rfl) (by kernel_rfl)
theorem En204 : Ent Try.prog 204 := ent_of Try.func204 (by kernel_rfl) (by kernel_rfl)
theorem En205 : Ent Try.prog 205 := ent_of Try.func205 (by kernel_rfl) (by kernel_rfl)
theorem En206 : Ent Try.prog 206 := ent_of Try.func206 (by kernel_rfl) (by kernel_rfl)
theorem En207 : Ent Try.prog 207 := ent_of Try.func207 (by kernel_rfl) (by kernel_rfl)
theorem En208 : Ent Try.prog 208 := ent_of Try.func208 (by kernel_rfl) (by kernel_rfl)
theorem En209 : Ent Try.prog 209 := ent_of Try.func209 (by kernel_rfl) (by kernel_rfl)
theorem En210 : Ent Try.prog 210 := ent_of Try.func210 (by kernel_rfl) (by kernel_rfl)
theorem En211 : Ent Try.prog 211 := ent_of Try.func211 (by kernel_rfl) (by kernel_rfl)
theorem En212 : Ent Try.prog 212 := ent_of Try.func212 (by kernel_rfl) (by kernel_rfl)
theorem En213 : Ent Try.prog 213 := ent_of Try.func213 (by kernel_rfl) (by kernel_rfl)
theorem En214 : Ent Try.prog 214 := ent_of Try.func214 (by kernel_rfl) (by kernel_rfl)
theorem En215 : Ent Try.prog 215 := ent_of Try.func215 (by kernel_rfl) (by kernel_rfl)
theorem En216 : Ent Try.prog 216 := ent_of Try.func216 (by kernel_rfl) (by kernel_rfl)
theorem En217 : Ent Try.prog 217 := ent_of Try.func217 (by kernel_rfl) (by kernel_rfl)
theorem En218 : Ent Try.prog 218 := ent_of Try.func218 (by kernel_rfl) (by kernel_rfl)
theorem En219 : Ent Try.prog 219 := ent_of Try.func219 (by kernel_rfl) (by kernel_rfl)
theorem En220 : Ent Try.prog 220 := ent_of Try.func220 (by kernel_rfl) (by kernel_rfl)
theorem En221 : Ent Try.prog 221 := ent_of Try.func221 (by kernel_rfl) (by kernel_rfl)
theorem En222 : Ent Try.prog 222 := ent_of Try.func222 (by kernel_rfl) (by kernel_rfl)
theorem En223 : Ent Try.prog 223 := ent_of Try.func223 (by kernel_rfl) (by kernel_rfl)
theorem En224 : Ent Try.prog 224 := ent_of Try.func224 (by kernel_rfl) (by kernel_rfl)
theorem En225 : Ent Try.prog 225 := ent_of Try.func225 (by kernel_rfl) (by kernel_rfl)
theorem En226 : Ent Try.prog 226 := ent_of Try.func226 (by kernel_rfl) (by kernel_rfl)
theorem En227 : Ent Try.prog 227 := ent_of Try.func227 (by kernel_rfl) (by kernel_rfl)
theorem En228 : Ent Try.prog 228 := ent_of Try.func228 (by kernel_rfl) (by kernel_rfl)
theorem En229 : Ent Try.prog 229 := ent_of Try.func229 (by kernel_rfl) (by kernel_rfl)
theorem En230 : Ent Try.prog 230 := ent_of Try.func230 (by kernel_rfl) (by kernel_rfl)
theorem En231 : Ent Try.prog 231 := ent_of Try.func231 (by kernel_rfl) (by kernel_rfl)
theorem En232 : Ent Try.prog 232 := ent_of Try.func232 (by kernel_rfl) (by kernel_rfl)
theorem En233 : Ent Try.prog 233 := ent_of Try.func233 (by kernel_rfl) (by kernel_rfl)
theorem En234 : Ent Try.prog 234 := ent_of Try.func234 (by kernel_rfl) (by kernel_rfl)
theorem En235 : Ent Try.prog 235 := ent_of Try.func235 (by kernel_rfl) (by kernel_rfl)
theorem En236 : Ent Try.prog 236 := ent_of Try.func236 (by kernel_rfl) (by kernel_rfl)
theorem En237 : Ent Try.prog 237 := ent_of Try.func237 (by kernel_rfl) (by kernel_rfl)
theorem En238 : Ent Try.prog 238 := ent_of Try.func238 (by kernel_rfl) (by kernel_rfl)
end Go.Proofs.Ytilccgeldnlgnaa
