/- The types that are met, in a tree. -/
import Derived.Test.YtomkgfdigldhcaaGreatDoorMJ
import Derived.Test.YtomkgfdigldhcaaGreatDoorProg
import Derived.KernelRfl
import Derived.Laws.Bits64b
namespace Go.Proofs.YtomkgfdigldhcaaGreatDoor
open Go.KX
theorem tk2 : TDok Tryz.prog 2 ⟨1, 8, .int .i64 0, .int .i64⟩ := ⟨TI_of (by kernel_rfl), Tryz.underlying2⟩
theorem tk3 : TDok Tryz.prog 3 ⟨1, 8, .int .i64 0, .int .i64⟩ := ⟨TI_of (by kernel_rfl), Tryz.underlying3⟩
theorem tk4 : TDok Tryz.prog 4 ⟨1, 1, .bool false, .bool⟩ := ⟨TI_of (by kernel_rfl), Tryz.underlying4⟩
theorem tk5 : TDok Tryz.prog 5 ⟨1, 1, .int .u8 0, .int .u8⟩ := ⟨TI_of (by kernel_rfl), Tryz.underlying5⟩
theorem tk9 : TDok Tryz.prog 9 ⟨1, 16, str [], .str⟩ := ⟨TI_of (by kernel_rfl), Tryz.underlying9⟩
theorem tk21 : TDok Tryz.prog 21 ⟨1, 4, .int .i32 0, .int .i32⟩ := ⟨TI_of (by kernel_rfl), Tryz.underlying21⟩
theorem tk22 : TDok Tryz.prog 22 ⟨1, 24, .slice none 0 0, .sl 52⟩ := ⟨TI_of (by kernel_rfl), Tryz.underlying22⟩
theorem tk26 : TDok Tryz.prog 26 ⟨2, 16, .agg #[.int .i64 0, .int .i64 0], .st [(0, 1, false), (1, 1, false)]⟩ := TDst (TI_of (by kernel_rfl)) Tryz.underlying26 (by kernel_rfl)
theorem tk27 : TDok Tryz.prog 27 ⟨1, 24, .slice none 0 0, .sl 29⟩ := ⟨TI_of (by kernel_rfl), Tryz.underlying27⟩
theorem tk29 : TDok Tryz.prog 29 ⟨5, 64, .agg #[.int .i64 0, str [], .int .i64 0, .int .i64 0, .slice none 0 0], .st [(0, 1, false), (1, 1, false), (2, 2, true), (4, 1, false)]⟩ := TDst (TI_of (by kernel_rfl)) Tryz.underlying29 (by kernel_rfl)
theorem tk32 : TDok Tryz.prog 32 ⟨1, 24, .slice none 0 0, .sl 98⟩ := ⟨TI_of (by kernel_rfl), Tryz.underlying32⟩
theorem tk33 : TDok Tryz.prog 33 ⟨1, 8, .int .i64 0, .int .i64⟩ := ⟨TI_of (by kernel_rfl), Tryz.underlying33⟩
theorem tk46 : TDok Tryz.prog 46 ⟨1, 24, .slice none 0 0, .sl 26⟩ := ⟨TI_of (by kernel_rfl), Tryz.underlying46⟩
theorem tk48 : TDok Tryz.prog 48 ⟨1, 24, .slice none 0 0, .sl 9⟩ := ⟨TI_of (by kernel_rfl), Tryz.underlying48⟩
theorem tk52 : TDok Tryz.prog 52 ⟨2, 40, .agg #[str [], .slice none 0 0], .st [(0, 1, false), (1, 1, false)]⟩ := TDst (TI_of (by kernel_rfl)) Tryz.underlying52 (by kernel_rfl)
theorem tk56 : TDok Tryz.prog 56 ⟨1, 24, .slice none 0 0, .sl 65⟩ := ⟨TI_of (by kernel_rfl), Tryz.underlying56⟩
theorem tk65 : TDok Tryz.prog 65 ⟨11, 128, .agg #[str [], .int .i64 0, str [], str [], str [], .bool false, .int .i64 0, .int .i64 0, .int .i64 0, .int .i64 0, str []], .st [(0, 1, false), (1, 1, false), (2, 1, false), (3, 1, false), (4, 1, false), (5, 1, false), (6, 2, true), (8, 2, true), (10, 1, false)]⟩ := TDst (TI_of (by kernel_rfl)) Tryz.underlying65 (by kernel_rfl)
theorem tk74 : TDok Tryz.prog 74 ⟨1, 24, .slice none 0 0, .sl 77⟩ := ⟨TI_of (by kernel_rfl), Tryz.underlying74⟩
theorem tk75 : TDok Tryz.prog 75 ⟨1, 24, .slice none 0 0, .sl 93⟩ := ⟨TI_of (by kernel_rfl), Tryz.underlying75⟩
theorem tk77 : TDok Tryz.prog 77 ⟨3, 48, .agg #[str [], .bool false, .slice none 0 0], .st [(0, 1, false), (1, 1, false), (2, 1, false)]⟩ := TDst (TI_of (by kernel_rfl)) Tryz.underlying77 (by kernel_rfl)
theorem tk79 : TDok Tryz.prog 79 ⟨1, 24, .slice none 0 0, .sl 95⟩ := ⟨TI_of (by kernel_rfl), Tryz.underlying79⟩
theorem tk87 : TDok Tryz.prog 87 ⟨1, 24, .slice none 0 0, .sl 90⟩ := ⟨TI_of (by kernel_rfl), Tryz.underlying87⟩
theorem tk90 : TDok Tryz.prog 90 ⟨3, 24, .agg #[.int .i64 0, .int .i64 0, .int .i64 0], .st [(0, 1, false), (1, 2, true)]⟩ := TDst (TI_of (by kernel_rfl)) Tryz.underlying90 (by kernel_rfl)
theorem tk91 : TDok Tryz.prog 91 ⟨1, 24, .slice none 0 0, .sl 138⟩ := ⟨TI_of (by kernel_rfl), Tryz.underlying91⟩
theorem tk93 : TDok Tryz.prog 93 ⟨2, 48, .agg #[.slice none 0 0, .slice none 0 0], .st [(0, 1, false), (1, 1, false)]⟩ := TDst (TI_of (by kernel_rfl)) Tryz.underlying93 (by kernel_rfl)
theorem tk95 : TDok Tryz.prog 95 ⟨4, 48, .agg #[.slice none 0 0, .int .i64 0, .int .i64 0, .int .i64 0], .st [(0, 1, false), (1, 1, false), (2, 2, true)]⟩ := TDst (TI_of (by kernel_rfl)) Tryz.underlying95 (by kernel_rfl)
theorem tk98 : TDok Tryz.prog 98 ⟨3, 40, .agg #[.slice none 0 0, .int .i64 0, .int .i64 0], .st [(0, 1, false), (1, 2, true)]⟩ := TDst (TI_of (by kernel_rfl)) Tryz.underlying98 (by kernel_rfl)
theorem tk101 : TDok Tryz.prog 101 ⟨4, 40, .agg #[str [], .int .i64 0, .int .i64 0, .int .i64 0], .st [(0, 1, false), (1, 1, false), (2, 1, false), (3, 1, false)]⟩ := TDst (TI_of (by kernel_rfl)) Tryz.underlying101 (by kernel_rfl)
theorem tk108 : TDok Tryz.prog 108 ⟨1, 24, .slice none 0 0, .sl 32⟩ := ⟨TI_of (by kernel_rfl), Tryz.underlying108⟩
theorem tk117 : TDok Tryz.prog 117 ⟨5, 48, .agg #[str [], .int .i64 0, .int .i64 0, .int .i64 0, .bool false], .st [(0, 1, false), (1, 1, false), (2, 1, false), (3, 1, false), (4, 1, false)]⟩ := TDst (TI_of (by kernel_rfl)) Tryz.underlying117 (by kernel_rfl)
theorem tk124 : TDok Tryz.prog 124 ⟨1, 8, .map none, .mp 9 65⟩ := ⟨TI_of (by kernel_rfl), Tryz.underlying124⟩
theorem tk127 : TDok Tryz.prog 127 ⟨1, 8, .map none, .mp 9 4⟩ := ⟨TI_of (by kernel_rfl), Tryz.underlying127⟩
theorem tk138 : TDok Tryz.prog 138 ⟨2, 32, .agg #[str [], str []], .st [(0, 1, false), (1, 1, false)]⟩ := TDst (TI_of (by kernel_rfl)) Tryz.underlying138 (by kernel_rfl)
theorem tk163 : TDok Tryz.prog 163 ⟨1, 8, .nilFunc, .oth⟩ := ⟨TI_of (by kernel_rfl), ⟨_, Tryz.underlying163, rfl⟩⟩
theorem tk167 : TDok Tryz.prog 167 ⟨6, 96, .agg #[str [], str [], str [], str [], str [], str []], .arr 6 9⟩ := ⟨TI_of (by kernel_rfl), Tryz.underlying167⟩
theorem tk172 : TDok Tryz.prog 172 ⟨1, 8, .int .u64 0, .int .u64⟩ := ⟨TI_of (by kernel_rfl), Tryz.underlying172⟩
theorem tk182 : TDok Tryz.prog 182 ⟨3, 56, .agg #[.map none, .slice none 0 0, .slice none 0 0], .st [(0, 1, false), (1, 1, false), (2, 1, false)]⟩ := TDst (TI_of (by kernel_rfl)) Tryz.underlying182 (by kernel_rfl)
theorem tk183 : TDok Tryz.prog 183 ⟨1, 8, .nilFunc, .oth⟩ := ⟨TI_of (by kernel_rfl), ⟨_, Tryz.underlying183, rfl⟩⟩
theorem tk185 : TDok Tryz.prog 185 ⟨1, 8, .map none, .mp 3 183⟩ := ⟨TI_of (by kernel_rfl), Tryz.underlying185⟩
theorem tk197 : TDok Tryz.prog 197 ⟨1, 8, .nilFunc, .oth⟩ := ⟨TI_of (by kernel_rfl), ⟨_, Tryz.underlying197, rfl⟩⟩
theorem tk199 : TDok Tryz.prog 199 ⟨1, 8, .map none, .mp 9 197⟩ := ⟨TI_of (by kernel_rfl), Tryz.underlying199⟩
theorem tk201 : TDok Tryz.prog 201 ⟨1, 8, .nilFunc, .oth⟩ := ⟨TI_of (by kernel_rfl), ⟨_, Tryz.underlying201, rfl⟩⟩
theorem tk203 : TDok Tryz.prog 203 ⟨1, 8, .map none, .mp 9 201⟩ := ⟨TI_of (by kernel_rfl), Tryz.underlying203⟩
theorem tk212 : TDok Tryz.prog 212 ⟨5, 120, .agg #[.slice none 0 0, .slice none 0 0, .slice none 0 0, .slice none 0 0, .slice none 0 0], .arr 5 48⟩ := ⟨TI_of (by kernel_rfl), Tryz.underlying212⟩
theorem tk217 : TDok Tryz.prog 217 ⟨256, 256, .agg #[.bool false, .bool false, .bool false, .bool false, .bool false, .bool false, .bool false, .bool false, .bool false, .bool false, .bool false, .bool false, .bool false, .bool false, .bool false, .bool false, .bool false, .bool false, .bool false, .bool false, .bool false, .bool false, .bool false, .bool false, .bool false, .bool false, .bool false, .bool false, .bool false, .bool false, .bool false, .bool false, .bool false, .bool false, .bool false, .bool false, .bool false, .bool false, .bool false, .bool false, .bool false, .bool false, .bool false, .bool false, .bool false, .bool false, .bool false, .bool false, .bool false, .bool false, .bool false, .bool false, .bool false, .bool false, .bool false, .bool false, .bool false, .bool false, .bool false, .bool false, .bool false, .bool false, .bool false, .bool false, .bool false, .bool false, .bool false, .bool false, .bool false, .bool false, .bool false, .bool false, .bool false, .bool false, .bool false, .bool false, .bool false, .bool false, .bool false, .bool false, .bool false, .bool false, .bool false, .bool false, .bool false, .bool false, .bool false, .bool false, .bool false, .bool false, .bool false, .bool false, .bool false, .bool false, .bool false, .bool false, .bool false, .bool false, .bool false, .bool false, .bool false, .bool false, .bool false, .bool false, .bool false, .bool false, .bool false, .bool false, .bool false, .bool false, .bool false, .bool false, .bool false, .bool false, .bool false, .bool false, .bool false, .bool false, .bool false, .bool false, .bool false, .bool false, .bool false, .bool false, .bool false, .bool false, .bool false, .bool false, .bool false, .bool false, .bool false, .bool false, .bool false, .bool false, .bool false, .bool false, .bool false, .bool false, .bool false, .bool false, .bool false, .bool false, .bool false, .bool false, .bool false, .bool false, .bool false, .bool false, .bool false, .bool false, .bool false, .bool false, .bool false, .bool false, .bool false, .bool false, .bool false, .bool false, .bool false, .bool false, .bool false, .bool false, .bool false, .bool false, .bool false, .bool false, .bool false, .bool false, .bool false, .bool false, .bool false, .bool false, .bool false, .bool false, .bool false, .bool false, .bool false, .bool false, .bool false, .bool false, .bool false, .bool false, .bool false, .bool false, .bool false, .bool false, .bool false, .bool false, .bool false, .bool false, .bool false, .bool false, .bool false, .bool false, .bool false, .bool false, .bool false, .bool false, .bool false, .bool false, .bool false, .bool false, .bool false, .bool false, .bool false, .bool false, .bool false, .bool false, .bool false, .bool false, .bool false, .bool false, .bool false, .bool false, .bool false, .bool false, .bool false, .bool false, .bool false, .bool false, .bool false, .bool false, .bool false, .bool false, .bool false, .bool false, .bool false, .bool false, .bool false, .bool false, .bool false, .bool false, .bool false, .bool false, .bool false, .bool false, .bool false, .bool false, .bool false, .bool false, .bool false, .bool false, .bool false, .bool false, .bool false, .bool false, .bool false, .bool false, .bool false, .bool false, .bool false, .bool false, .bool false, .bool false, .bool false, .bool false], .arr 256 4⟩ := ⟨TI_of (by kernel_rfl), Tryz.underlying217⟩
theorem tk223 : TDok Tryz.prog 223 ⟨1, 8, .int .i64 0, .int .i64⟩ := ⟨TI_of (by kernel_rfl), Tryz.underlying223⟩
theorem tk232 : TDok Tryz.prog 232 ⟨1, 4, .int .u32 0, .int .u32⟩ := ⟨TI_of (by kernel_rfl), Tryz.underlying232⟩
theorem tk234 : TDok Tryz.prog 234 ⟨1, 8, .int .u64 0, .int .u64⟩ := ⟨TI_of (by kernel_rfl), Tryz.underlying234⟩
theorem tk254 : TDok Tryz.prog 254 ⟨1, 8, .nilFunc, .oth⟩ := ⟨TI_of (by kernel_rfl), ⟨_, Tryz.underlying254, rfl⟩⟩
theorem tk259 : TDok Tryz.prog 259 ⟨1, 8, .nilFunc, .oth⟩ := ⟨TI_of (by kernel_rfl), ⟨_, Tryz.underlying259, rfl⟩⟩
theorem tk262 : TDok Tryz.prog 262 ⟨15, 240, .agg #[str [], str [], str [], str [], str [], str [], str [], str [], str [], str [], str [], str [], str [], str [], str []], .arr 15 9⟩ := ⟨TI_of (by kernel_rfl), Tryz.underlying262⟩
theorem tk264 : TDok Tryz.prog 264 ⟨24, 24, .agg #[.int .u8 0, .int .u8 0, .int .u8 0, .int .u8 0, .int .u8 0, .int .u8 0, .int .u8 0, .int .u8 0, .int .u8 0, .int .u8 0, .int .u8 0, .int .u8 0, .int .u8 0, .int .u8 0, .int .u8 0, .int .u8 0, .int .u8 0, .int .u8 0, .int .u8 0, .int .u8 0, .int .u8 0, .int .u8 0, .int .u8 0, .int .u8 0], .arr 24 5⟩ := ⟨TI_of (by kernel_rfl), Tryz.underlying264⟩
theorem tk266 : TDok Tryz.prog 266 ⟨1, 24, .slice none 0 0, .sl 5⟩ := ⟨TI_of (by kernel_rfl), Tryz.underlying266⟩
theorem tk272 : TDok Tryz.prog 272 ⟨1, 8, .int .u64 0, .int .u64⟩ := ⟨TI_of (by kernel_rfl), Tryz.underlying272⟩
theorem tk296 : TDok Tryz.prog 296 ⟨1, 24, .slice none 0 0, .sl 3⟩ := ⟨TI_of (by kernel_rfl), Tryz.underlying296⟩
theorem tk304 : TDok Tryz.prog 304 ⟨20, 160, .agg #[.int .u64 0, .int .u64 0, .int .u64 0, .int .u64 0, .int .u64 0, .int .u64 0, .int .u64 0, .int .u64 0, .int .u64 0, .int .u64 0, .int .u64 0, .int .u64 0, .int .u64 0, .int .u64 0, .int .u64 0, .int .u64 0, .int .u64 0, .int .u64 0, .int .u64 0, .int .u64 0], .arr 20 234⟩ := ⟨TI_of (by kernel_rfl), Tryz.underlying304⟩
theorem tk305 : TDok Tryz.prog 305 ⟨65, 65, .agg #[.int .u8 0, .int .u8 0, .int .u8 0, .int .u8 0, .int .u8 0, .int .u8 0, .int .u8 0, .int .u8 0, .int .u8 0, .int .u8 0, .int .u8 0, .int .u8 0, .int .u8 0, .int .u8 0, .int .u8 0, .int .u8 0, .int .u8 0, .int .u8 0, .int .u8 0, .int .u8 0, .int .u8 0, .int .u8 0, .int .u8 0, .int .u8 0, .int .u8 0, .int .u8 0, .int .u8 0, .int .u8 0, .int .u8 0, .int .u8 0, .int .u8 0, .int .u8 0, .int .u8 0, .int .u8 0, .int .u8 0, .int .u8 0, .int .u8 0, .int .u8 0, .int .u8 0, .int .u8 0, .int .u8 0, .int .u8 0, .int .u8 0, .int .u8 0, .int .u8 0, .int .u8 0, .int .u8 0, .int .u8 0, .int .u8 0, .int .u8 0, .int .u8 0, .int .u8 0, .int .u8 0, .int .u8 0, .int .u8 0, .int .u8 0, .int .u8 0, .int .u8 0, .int .u8 0, .int .u8 0, .int .u8 0, .int .u8 0, .int .u8 0, .int .u8 0, .int .u8 0], .arr 65 5⟩ := ⟨TI_of (by kernel_rfl), Tryz.underlying305⟩
theorem tk318 : TDok Tryz.prog 318 ⟨1, 16, .nilIface, .oth⟩ := ⟨TI_of (by kernel_rfl), ⟨_, Tryz.underlying318, rfl⟩⟩
theorem tk329 : TDok Tryz.prog 329 ⟨32, 32, .agg #[.int .u8 0, .int .u8 0, .int .u8 0, .int .u8 0, .int .u8 0, .int .u8 0, .int .u8 0, .int .u8 0, .int .u8 0, .int .u8 0, .int .u8 0, .int .u8 0, .int .u8 0, .int .u8 0, .int .u8 0, .int .u8 0, .int .u8 0, .int .u8 0, .int .u8 0, .int .u8 0, .int .u8 0, .int .u8 0, .int .u8 0, .int .u8 0, .int .u8 0, .int .u8 0, .int .u8 0, .int .u8 0, .int .u8 0, .int .u8 0, .int .u8 0, .int .u8 0], .arr 32 5⟩ := ⟨TI_of (by kernel_rfl), Tryz.underlying329⟩
theorem tk330 : TDok Tryz.prog 330 ⟨64, 64, .agg #[.int .u8 0, .int .u8 0, .int .u8 0, .int .u8 0, .int .u8 0, .int .u8 0, .int .u8 0, .int .u8 0, .int .u8 0, .int .u8 0, .int .u8 0, .int .u8 0, .int .u8 0, .int .u8 0, .int .u8 0, .int .u8 0, .int .u8 0, .int .u8 0, .int .u8 0, .int .u8 0, .int .u8 0, .int .u8 0, .int .u8 0, .int .u8 0, .int .u8 0, .int .u8 0, .int .u8 0, .int .u8 0, .int .u8 0, .int .u8 0, .int .u8 0, .int .u8 0, .int .u8 0, .int .u8 0, .int .u8 0, .int .u8 0, .int .u8 0, .int .u8 0, .int .u8 0, .int .u8 0, .int .u8 0, .int .u8 0, .int .u8 0, .int .u8 0, .int .u8 0, .int .u8 0, .int .u8 0, .int .u8 0, .int .u8 0, .int .u8 0, .int .u8 0, .int .u8 0, .int .u8 0, .int .u8 0, .int .u8 0, .int .u8 0, .int .u8 0, .int .u8 0, .int .u8 0, .int .u8 0, .int .u8 0, .int .u8 0, .int .u8 0, .int .u8 0], .arr 64 5⟩ := ⟨TI_of (by kernel_rfl), Tryz.underlying330⟩
theorem tk331 : TDok Tryz.prog 331 ⟨256, 256, .agg #[.int .u8 0, .int .u8 0, .int .u8 0, .int .u8 0, .int .u8 0, .int .u8 0, .int .u8 0, .int .u8 0, .int .u8 0, .int .u8 0, .int .u8 0, .int .u8 0, .int .u8 0, .int .u8 0, .int .u8 0, .int .u8 0, .int .u8 0, .int .u8 0, .int .u8 0, .int .u8 0, .int .u8 0, .int .u8 0, .int .u8 0, .int .u8 0, .int .u8 0, .int .u8 0, .int .u8 0, .int .u8 0, .int .u8 0, .int .u8 0, .int .u8 0, .int .u8 0, .int .u8 0, .int .u8 0, .int .u8 0, .int .u8 0, .int .u8 0, .int .u8 0, .int .u8 0, .int .u8 0, .int .u8 0, .int .u8 0, .int .u8 0, .int .u8 0, .int .u8 0, .int .u8 0, .int .u8 0, .int .u8 0, .int .u8 0, .int .u8 0, .int .u8 0, .int .u8 0, .int .u8 0, .int .u8 0, .int .u8 0, .int .u8 0, .int .u8 0, .int .u8 0, .int .u8 0, .int .u8 0, .int .u8 0, .int .u8 0, .int .u8 0, .int .u8 0, .int .u8 0, .int .u8 0, .int .u8 0, .int .u8 0, .int .u8 0, .int .u8 0, .int .u8 0, .int .u8 0, .int .u8 0, .int .u8 0, .int .u8 0, .int .u8 0, .int .u8 0, .int .u8 0, .int .u8 0, .int .u8 0, .int .u8 0, .int .u8 0, .int .u8 0, .int .u8 0, .int .u8 0, .int .u8 0, .int .u8 0, .int .u8 0, .int .u8 0, .int .u8 0, .int .u8 0, .int .u8 0, .int .u8 0, .int .u8 0, .int .u8 0, .int .u8 0, .int .u8 0, .int .u8 0, .int .u8 0, .int .u8 0, .int .u8 0, .int .u8 0, .int .u8 0, .int .u8 0, .int .u8 0, .int .u8 0, .int .u8 0, .int .u8 0, .int .u8 0, .int .u8 0, .int .u8 0, .int .u8 0, .int .u8 0, .int .u8 0, .int .u8 0, .int .u8 0, .int .u8 0, .int .u8 0, .int .u8 0, .int .u8 0, .int .u8 0, .int .u8 0, .int .u8 0, .int .u8 0, .int .u8 0, .int .u8 0, .int .u8 0, .int .u8 0, .int .u8 0, .int .u8 0, .int .u8 0, .int .u8 0, .int .u8 0, .int .u8 0, .int .u8 0, .int .u8 0, .int .u8 0, .int .u8 0, .int .u8 0, .int .u8 0, .int .u8 0, .int .u8 0, .int .u8 0, .int .u8 0, .int .u8 0, .int .u8 0, .int .u8 0, .int .u8 0, .int .u8 0, .int .u8 0, .int .u8 0, .int .u8 0, .int .u8 0, .int .u8 0, .int .u8 0, .int .u8 0, .int .u8 0, .int .u8 0, .int .u8 0, .int .u8 0, .int .u8 0, .int .u8 0, .int .u8 0, .int .u8 0, .int .u8 0, .int .u8 0, .int .u8 0, .int .u8 0, .int .u8 0, .int .u8 0, .int .u8 0, .int .u8 0, .int .u8 0, .int .u8 0, .int .u8 0, .int .u8 0, .int .u8 0, .int .u8 0, .int .u8 0, .int .u8 0, .int .u8 0, .int .u8 0, .int .u8 0, .int .u8 0, .int .u8 0, .int .u8 0, .int .u8 0, .int .u8 0, .int .u8 0, .int .u8 0, .int .u8 0, .int .u8 0, .int .u8 0, .int .u8 0, .int .u8 0, .int .u8 0, .int .u8 0, .int .u8 0, .int .u8 0, .int .u8 0, .int .u8 0, .int .u8 0, .int .u8 0, .int .u8 0, .int .u8 0, .int .u8 0, .int .u8 0, .int .u8 0, .int .u8 0, .int .u8 0, .int .u8 0, .int .u8 0, .int .u8 0, .int .u8 0, .int .u8 0, .int .u8 0, .int .u8 0, .int .u8 0, .int .u8 0, .int .u8 0, .int .u8 0, .int .u8 0, .int .u8 0, .int .u8 0, .int .u8 0, .int .u8 0, .int .u8 0, .int .u8 0, .int .u8 0, .int .u8 0, .int .u8 0, .int .u8 0, .int .u8 0, .int .u8 0, .int .u8 0, .int .u8 0, .int .u8 0, .int .u8 0, .int .u8 0, .int .u8 0, .int .u8 0, .int .u8 0, .int .u8 0, .int .u8 0, .int .u8 0, .int .u8 0, .int .u8 0, .int .u8 0, .int .u8 0, .int .u8 0, .int .u8 0, .int .u8 0, .int .u8 0, .int .u8 0, .int .u8 0, .int .u8 0], .arr 256 5⟩ := ⟨TI_of (by kernel_rfl), Tryz.underlying331⟩
theorem tk333 : TDok Tryz.prog 333 ⟨2, 2, .agg #[.int .u8 0, .int .u8 0], .st [(0, 1, false), (1, 1, false)]⟩ := TDst (TI_of (by kernel_rfl)) Tryz.underlying333 (by kernel_rfl)
theorem tk334 : TDok Tryz.prog 334 ⟨32, 32, .agg #[.int .u8 0, .int .u8 0, .int .u8 0, .int .u8 0, .int .u8 0, .int .u8 0, .int .u8 0, .int .u8 0, .int .u8 0, .int .u8 0, .int .u8 0, .int .u8 0, .int .u8 0, .int .u8 0, .int .u8 0, .int .u8 0, .int .u8 0, .int .u8 0, .int .u8 0, .int .u8 0, .int .u8 0, .int .u8 0, .int .u8 0, .int .u8 0, .int .u8 0, .int .u8 0, .int .u8 0, .int .u8 0, .int .u8 0, .int .u8 0, .int .u8 0, .int .u8 0], .arr 16 333⟩ := ⟨TI_of (by kernel_rfl), Tryz.underlying334⟩
theorem tk339 : TDok Tryz.prog 339 ⟨1, 8, .pointer none, .ptr 341⟩ := ⟨TI_of (by kernel_rfl), Tryz.underlying339⟩
theorem tk341 : TDok Tryz.prog 341 ⟨2, 32, .agg #[.pointer none, .slice none 0 0], .st [(0, 1, false), (1, 1, false)]⟩ := TDst (TI_of (by kernel_rfl)) Tryz.underlying341 (by kernel_rfl)
theorem tk345 : TDok Tryz.prog 345 ⟨1, 8, .int .i64 0, .int .i64⟩ := ⟨TI_of (by kernel_rfl), Tryz.underlying345⟩
theorem tk347 : TDok Tryz.prog 347 ⟨1, 8, .pointer none, .ptr 353⟩ := ⟨TI_of (by kernel_rfl), Tryz.underlying347⟩
theorem tk350 : TDok Tryz.prog 350 ⟨1, 8, .pointer none, .ptr 5⟩ := ⟨TI_of (by kernel_rfl), Tryz.underlying350⟩
theorem tk353 : TDok Tryz.prog 353 ⟨3, 48, .agg #[str [], str [], .nilIface], .st [(0, 1, false), (1, 1, false), (2, 1, false)]⟩ := TDst (TI_of (by kernel_rfl)) Tryz.underlying353 (by kernel_rfl)
theorem tk359 : TDok Tryz.prog 359 ⟨1, 8, .pointer none, .ptr 361⟩ := ⟨TI_of (by kernel_rfl), Tryz.underlying359⟩
theorem tk361 : TDok Tryz.prog 361 ⟨1, 16, .agg #[str []], .st [(0, 1, false)]⟩ := TDst (TI_of (by kernel_rfl)) Tryz.underlying361 (by kernel_rfl)
def tb : TT := .node (.node (.node (.node (.node (.node (.node (.nil) 2 ⟨1, 8, .int .i64 0, .int .i64⟩ (.nil)) 3 ⟨1, 8, .int .i64 0, .int .i64⟩ (.nil)) 4 ⟨1, 1, .bool false, .bool⟩ (.node (.nil) 5 ⟨1, 1, .int .u8 0, .int .u8⟩ (.nil))) 9 ⟨1, 16, str [], .str⟩ (.node (.node (.nil) 21 ⟨1, 4, .int .i32 0, .int .i32⟩ (.nil)) 22 ⟨1, 24, .slice none 0 0, .sl 52⟩ (.node (.nil) 26 ⟨2, 16, .agg #[.int .i64 0, .int .i64 0], .st [(0, 1, false), (1, 1, false)]⟩ (.nil)))) 27 ⟨1, 24, .slice none 0 0, .sl 29⟩ (.node (.node (.node (.node (.nil) 29 ⟨5, 64, .agg #[.int .i64 0, str [], .int .i64 0, .int .i64 0, .slice none 0 0], .st [(0, 1, false), (1, 1, false), (2, 2, true), (4, 1, false)]⟩ (.nil)) 32 ⟨1, 24, .slice none 0 0, .sl 98⟩ (.nil)) 33 ⟨1, 8, .int .i64 0, .int .i64⟩ (.node (.nil) 46 ⟨1, 24, .slice none 0 0, .sl 26⟩ (.nil))) 48 ⟨1, 24, .slice none 0 0, .sl 9⟩ (.node (.node (.nil) 52 ⟨2, 40, .agg #[str [], .slice none 0 0], .st [(0, 1, false), (1, 1, false)]⟩ (.nil)) 56 ⟨1, 24, .slice none 0 0, .sl 65⟩ (.node (.nil) 65 ⟨11, 128, .agg #[str [], .int .i64 0, str [], str [], str [], .bool false, .int .i64 0, .int .i64 0, .int .i64 0, .int .i64 0, str []], .st [(0, 1, false), (1, 1, false), (2, 1, false), (3, 1, false), (4, 1, false), (5, 1, false), (6, 2, true), (8, 2, true), (10, 1, false)]⟩ (.nil))))) 74 ⟨1, 24, .slice none 0 0, .sl 77⟩ (.node (.node (.node (.node (.node (.nil) 75 ⟨1, 24, .slice none 0 0, .sl 93⟩ (.nil)) 77 ⟨3, 48, .agg #[str [], .bool false, .slice none 0 0], .st [(0, 1, false), (1, 1, false), (2, 1, false)]⟩ (.nil)) 79 ⟨1, 24, .slice none 0 0, .sl 95⟩ (.node (.nil) 87 ⟨1, 24, .slice none 0 0, .sl 90⟩ (.nil))) 90 ⟨3, 24, .agg #[.int .i64 0, .int .i64 0, .int .i64 0], .st [(0, 1, false), (1, 2, true)]⟩ (.node (.node (.nil) 91 ⟨1, 24, .slice none 0 0, .sl 138⟩ (.nil)) 93 ⟨2, 48, .agg #[.slice none 0 0, .slice none 0 0], .st [(0, 1, false), (1, 1, false)]⟩ (.node (.nil) 95 ⟨4, 48, .agg #[.slice none 0 0, .int .i64 0, .int .i64 0, .int .i64 0], .st [(0, 1, false), (1, 1, false), (2, 2, true)]⟩ (.nil)))) 98 ⟨3, 40, .agg #[.slice none 0 0, .int .i64 0, .int .i64 0], .st [(0, 1, false), (1, 2, true)]⟩ (.node (.node (.node (.node (.nil) 101 ⟨4, 40, .agg #[str [], .int .i64 0, .int .i64 0, .int .i64 0], .st [(0, 1, false), (1, 1, false), (2, 1, false), (3, 1, false)]⟩ (.nil)) 108 ⟨1, 24, .slice none 0 0, .sl 32⟩ (.nil)) 117 ⟨5, 48, .agg #[str [], .int .i64 0, .int .i64 0, .int .i64 0, .bool false], .st [(0, 1, false), (1, 1, false), (2, 1, false), (3, 1, false), (4, 1, false)]⟩ (.node (.nil) 124 ⟨1, 8, .map none, .mp 9 65⟩ (.nil))) 127 ⟨1, 8, .map none, .mp 9 4⟩ (.node (.node (.nil) 138 ⟨2, 32, .agg #[str [], str []], .st [(0, 1, false), (1, 1, false)]⟩ (.nil)) 163 ⟨1, 8, .nilFunc, .oth⟩ (.node (.nil) 167 ⟨6, 96, .agg #[str [], str [], str [], str [], str [], str []], .arr 6 9⟩ (.nil)))))) 172 ⟨1, 8, .int .u64 0, .int .u64⟩ (.node (.node (.node (.node (.node (.node (.nil) 182 ⟨3, 56, .agg #[.map none, .slice none 0 0, .slice none 0 0], .st [(0, 1, false), (1, 1, false), (2, 1, false)]⟩ (.nil)) 183 ⟨1, 8, .nilFunc, .oth⟩ (.nil)) 185 ⟨1, 8, .map none, .mp 3 183⟩ (.node (.nil) 197 ⟨1, 8, .nilFunc, .oth⟩ (.nil))) 199 ⟨1, 8, .map none, .mp 9 197⟩ (.node (.node (.nil) 201 ⟨1, 8, .nilFunc, .oth⟩ (.nil)) 203 ⟨1, 8, .map none, .mp 9 201⟩ (.node (.nil) 212 ⟨5, 120, .agg #[.slice none 0 0, .slice none 0 0, .slice none 0 0, .slice none 0 0, .slice none 0 0], .arr 5 48⟩ (.nil)))) 217 ⟨256, 256, .agg #[.bool false, .bool false, .bool false, .bool false, .bool false, .bool false, .bool false, .bool false, .bool false, .bool false, .bool false, .bool false, .bool false, .bool false, .bool false, .bool false, .bool false, .bool false, .bool false, .bool false, .bool false, .bool false, .bool false, .bool false, .bool false, .bool false, .bool false, .bool false, .bool false, .bool false, .bool false, .bool false, .bool false, .bool false, .bool false, .bool false, .bool false, .bool false, .bool false, .bool false, .bool false, .bool false, .bool false, .bool false, .bool false, .bool false, .bool false, .bool false, .bool false, .bool false, .bool false, .bool false, .bool false, .bool false, .bool false, .bool false, .bool false, .bool false, .bool false, .bool false, .bool false, .bool false, .bool false, .bool false, .bool false, .bool false, .bool false, .bool false, .bool false, .bool false, .bool false, .bool false, .bool false, .bool false, .bool false, .bool false, .bool false, .bool false, .bool false, .bool false, .bool false, .bool false, .bool false, .bool false, .bool false, .bool false, .bool false, .bool false, .bool false, .bool false, .bool false, .bool false, .bool false, .bool false, .bool false, .bool false, .bool false, .bool false, .bool false, .bool false, .bool false, .bool false, .bool false, .bool false, .bool false, .bool false, .bool false, .bool false, .bool false, .bool false, .bool false, .bool false, .bool false, .bool false, .bool false, .bool false, .bool false, .bool false, .bool false, .bool false, .bool false, .bool false, .bool false, .bool false, .bool false, .bool false, .bool false, .bool false, .bool false, .bool false, .bool false, .bool false, .bool false, .bool false, .bool false, .bool false, .bool false, .bool false, .bool false, .bool false, .bool false, .bool false, .bool false, .bool false, .bool false, .bool false, .bool false, .bool false, .bool false, .bool false, .bool false, .bool false, .bool false, .bool false, .bool false, .bool false, .bool false, .bool false, .bool false, .bool false, .bool false, .bool false, .bool false, .bool false, .bool false, .bool false, .bool false, .bool false, .bool false, .bool false, .bool false, .bool false, .bool false, .bool false, .bool false, .bool false, .bool false, .bool false, .bool false, .bool false, .bool false, .bool false, .bool false, .bool false, .bool false, .bool false, .bool false, .bool false, .bool false, .bool false, .bool false, .bool false, .bool false, .bool false, .bool false, .bool false, .bool false, .bool false, .bool false, .bool false, .bool false, .bool false, .bool false, .bool false, .bool false, .bool false, .bool false, .bool false, .bool false, .bool false, .bool false, .bool false, .bool false, .bool false, .bool false, .bool false, .bool false, .bool false, .bool false, .bool false, .bool false, .bool false, .bool false, .bool false, .bool false, .bool false, .bool false, .bool false, .bool false, .bool false, .bool false, .bool false, .bool false, .bool false, .bool false, .bool false, .bool false, .bool false, .bool false, .bool false, .bool false, .bool false, .bool false, .bool false, .bool false, .bool false, .bool false, .bool false, .bool false, .bool false, .bool false, .bool false, .bool false, .bool false, .bool false, .bool false], .arr 256 4⟩ (.node (.node (.node (.node (.nil) 223 ⟨1, 8, .int .i64 0, .int .i64⟩ (.nil)) 232 ⟨1, 4, .int .u32 0, .int .u32⟩ (.nil)) 234 ⟨1, 8, .int .u64 0, .int .u64⟩ (.node (.nil) 254 ⟨1, 8, .nilFunc, .oth⟩ (.nil))) 259 ⟨1, 8, .nilFunc, .oth⟩ (.node (.node (.nil) 262 ⟨15, 240, .agg #[str [], str [], str [], str [], str [], str [], str [], str [], str [], str [], str [], str [], str [], str [], str []], .arr 15 9⟩ (.nil)) 264 ⟨24, 24, .agg #[.int .u8 0, .int .u8 0, .int .u8 0, .int .u8 0, .int .u8 0, .int .u8 0, .int .u8 0, .int .u8 0, .int .u8 0, .int .u8 0, .int .u8 0, .int .u8 0, .int .u8 0, .int .u8 0, .int .u8 0, .int .u8 0, .int .u8 0, .int .u8 0, .int .u8 0, .int .u8 0, .int .u8 0, .int .u8 0, .int .u8 0, .int .u8 0], .arr 24 5⟩ (.node (.nil) 266 ⟨1, 24, .slice none 0 0, .sl 5⟩ (.nil))))) 272 ⟨1, 8, .int .u64 0, .int .u64⟩ (.node (.node (.node (.node (.node (.nil) 296 ⟨1, 24, .slice none 0 0, .sl 3⟩ (.nil)) 304 ⟨20, 160, .agg #[.int .u64 0, .int .u64 0, .int .u64 0, .int .u64 0, .int .u64 0, .int .u64 0, .int .u64 0, .int .u64 0, .int .u64 0, .int .u64 0, .int .u64 0, .int .u64 0, .int .u64 0, .int .u64 0, .int .u64 0, .int .u64 0, .int .u64 0, .int .u64 0, .int .u64 0, .int .u64 0], .arr 20 234⟩ (.nil)) 305 ⟨65, 65, .agg #[.int .u8 0, .int .u8 0, .int .u8 0, .int .u8 0, .int .u8 0, .int .u8 0, .int .u8 0, .int .u8 0, .int .u8 0, .int .u8 0, .int .u8 0, .int .u8 0, .int .u8 0, .int .u8 0, .int .u8 0, .int .u8 0, .int .u8 0, .int .u8 0, .int .u8 0, .int .u8 0, .int .u8 0, .int .u8 0, .int .u8 0, .int .u8 0, .int .u8 0, .int .u8 0, .int .u8 0, .int .u8 0, .int .u8 0, .int .u8 0, .int .u8 0, .int .u8 0, .int .u8 0, .int .u8 0, .int .u8 0, .int .u8 0, .int .u8 0, .int .u8 0, .int .u8 0, .int .u8 0, .int .u8 0, .int .u8 0, .int .u8 0, .int .u8 0, .int .u8 0, .int .u8 0, .int .u8 0, .int .u8 0, .int .u8 0, .int .u8 0, .int .u8 0, .int .u8 0, .int .u8 0, .int .u8 0, .int .u8 0, .int .u8 0, .int .u8 0, .int .u8 0, .int .u8 0, .int .u8 0, .int .u8 0, .int .u8 0, .int .u8 0, .int .u8 0, .int .u8 0], .arr 65 5⟩ (.node (.nil) 318 ⟨1, 16, .nilIface, .oth⟩ (.nil))) 329 ⟨32, 32, .agg #[.int .u8 0, .int .u8 0, .int .u8 0, .int .u8 0, .int .u8 0, .int .u8 0, .int .u8 0, .int .u8 0, .int .u8 0, .int .u8 0, .int .u8 0, .int .u8 0, .int .u8 0, .int .u8 0, .int .u8 0, .int .u8 0, .int .u8 0, .int .u8 0, .int .u8 0, .int .u8 0, .int .u8 0, .int .u8 0, .int .u8 0, .int .u8 0, .int .u8 0, .int .u8 0, .int .u8 0, .int .u8 0, .int .u8 0, .int .u8 0, .int .u8 0, .int .u8 0], .arr 32 5⟩ (.node (.node (.nil) 330 ⟨64, 64, .agg #[.int .u8 0, .int .u8 0, .int .u8 0, .int .u8 0, .int .u8 0, .int .u8 0, .int .u8 0, .int .u8 0, .int .u8 0, .int .u8 0, .int .u8 0, .int .u8 0, .int .u8 0, .int .u8 0, .int .u8 0, .int .u8 0, .int .u8 0, .int .u8 0, .int .u8 0, .int .u8 0, .int .u8 0, .int .u8 0, .int .u8 0, .int .u8 0, .int .u8 0, .int .u8 0, .int .u8 0, .int .u8 0, .int .u8 0, .int .u8 0, .int .u8 0, .int .u8 0, .int .u8 0, .int .u8 0, .int .u8 0, .int .u8 0, .int .u8 0, .int .u8 0, .int .u8 0, .int .u8 0, .int .u8 0, .int .u8 0, .int .u8 0, .int .u8 0, .int .u8 0, .int .u8 0, .int .u8 0, .int .u8 0, .int .u8 0, .int .u8 0, .int .u8 0, .int .u8 0, .int .u8 0, .int .u8 0, .int .u8 0, .int .u8 0, .int .u8 0, .int .u8 0, .int .u8 0, .int .u8 0, .int .u8 0, .int .u8 0, .int .u8 0, .int .u8 0], .arr 64 5⟩ (.nil)) 331 ⟨256, 256, .agg #[.int .u8 0, .int .u8 0, .int .u8 0, .int .u8 0, .int .u8 0, .int .u8 0, .int .u8 0, .int .u8 0, .int .u8 0, .int .u8 0, .int .u8 0, .int .u8 0, .int .u8 0, .int .u8 0, .int .u8 0, .int .u8 0, .int .u8 0, .int .u8 0, .int .u8 0, .int .u8 0, .int .u8 0, .int .u8 0, .int .u8 0, .int .u8 0, .int .u8 0, .int .u8 0, .int .u8 0, .int .u8 0, .int .u8 0, .int .u8 0, .int .u8 0, .int .u8 0, .int .u8 0, .int .u8 0, .int .u8 0, .int .u8 0, .int .u8 0, .int .u8 0, .int .u8 0, .int .u8 0, .int .u8 0, .int .u8 0, .int .u8 0, .int .u8 0, .int .u8 0, .int .u8 0, .int .u8 0, .int .u8 0, .int .u8 0, .int .u8 0, .int .u8 0, .int .u8 0, .int .u8 0, .int .u8 0, .int .u8 0, .int .u8 0, .int .u8 0, .int .u8 0, .int .u8 0, .int .u8 0, .int .u8 0, .int .u8 0, .int .u8 0, .int .u8 0, .int .u8 0, .int .u8 0, .int .u8 0, .int .u8 0, .int .u8 0, .int .u8 0, .int .u8 0, .int .u8 0, .int .u8 0, .int .u8 0, .int .u8 0, .int .u8 0, .int .u8 0, .int .u8 0, .int .u8 0, .int .u8 0, .int .u8 0, .int .u8 0, .int .u8 0, .int .u8 0, .int .u8 0, .int .u8 0, .int .u8 0, .int .u8 0, .int .u8 0, .int .u8 0, .int .u8 0, .int .u8 0, .int .u8 0, .int .u8 0, .int .u8 0, .int .u8 0, .int .u8 0, .int .u8 0, .int .u8 0, .int .u8 0, .int .u8 0, .int .u8 0, .int .u8 0, .int .u8 0, .int .u8 0, .int .u8 0, .int .u8 0, .int .u8 0, .int .u8 0, .int .u8 0, .int .u8 0, .int .u8 0, .int .u8 0, .int .u8 0, .int .u8 0, .int .u8 0, .int .u8 0, .int .u8 0, .int .u8 0, .int .u8 0, .int .u8 0, .int .u8 0, .int .u8 0, .int .u8 0, .int .u8 0, .int .u8 0, .int .u8 0, .int .u8 0, .int .u8 0, .int .u8 0, .int .u8 0, .int .u8 0, .int .u8 0, .int .u8 0, .int .u8 0, .int .u8 0, .int .u8 0, .int .u8 0, .int .u8 0, .int .u8 0, .int .u8 0, .int .u8 0, .int .u8 0, .int .u8 0, .int .u8 0, .int .u8 0, .int .u8 0, .int .u8 0, .int .u8 0, .int .u8 0, .int .u8 0, .int .u8 0, .int .u8 0, .int .u8 0, .int .u8 0, .int .u8 0, .int .u8 0, .int .u8 0, .int .u8 0, .int .u8 0, .int .u8 0, .int .u8 0, .int .u8 0, .int .u8 0, .int .u8 0, .int .u8 0, .int .u8 0, .int .u8 0, .int .u8 0, .int .u8 0, .int .u8 0, .int .u8 0, .int .u8 0, .int .u8 0, .int .u8 0, .int .u8 0, .int .u8 0, .int .u8 0, .int .u8 0, .int .u8 0, .int .u8 0, .int .u8 0, .int .u8 0, .int .u8 0, .int .u8 0, .int .u8 0, .int .u8 0, .int .u8 0, .int .u8 0, .int .u8 0, .int .u8 0, .int .u8 0, .int .u8 0, .int .u8 0, .int .u8 0, .int .u8 0, .int .u8 0, .int .u8 0, .int .u8 0, .int .u8 0, .int .u8 0, .int .u8 0, .int .u8 0, .int .u8 0, .int .u8 0, .int .u8 0, .int .u8 0, .int .u8 0, .int .u8 0, .int .u8 0, .int .u8 0, .int .u8 0, .int .u8 0, .int .u8 0, .int .u8 0, .int .u8 0, .int .u8 0, .int .u8 0, .int .u8 0, .int .u8 0, .int .u8 0, .int .u8 0, .int .u8 0, .int .u8 0, .int .u8 0, .int .u8 0, .int .u8 0, .int .u8 0, .int .u8 0, .int .u8 0, .int .u8 0, .int .u8 0, .int .u8 0, .int .u8 0, .int .u8 0, .int .u8 0, .int .u8 0, .int .u8 0, .int .u8 0, .int .u8 0, .int .u8 0, .int .u8 0, .int .u8 0, .int .u8 0, .int .u8 0, .int .u8 0, .int .u8 0, .int .u8 0, .int .u8 0, .int .u8 0, .int .u8 0, .int .u8 0, .int .u8 0, .int .u8 0, .int .u8 0, .int .u8 0], .arr 256 5⟩ (.node (.nil) 333 ⟨2, 2, .agg #[.int .u8 0, .int .u8 0], .st [(0, 1, false), (1, 1, false)]⟩ (.nil)))) 334 ⟨32, 32, .agg #[.int .u8 0, .int .u8 0, .int .u8 0, .int .u8 0, .int .u8 0, .int .u8 0, .int .u8 0, .int .u8 0, .int .u8 0, .int .u8 0, .int .u8 0, .int .u8 0, .int .u8 0, .int .u8 0, .int .u8 0, .int .u8 0, .int .u8 0, .int .u8 0, .int .u8 0, .int .u8 0, .int .u8 0, .int .u8 0, .int .u8 0, .int .u8 0, .int .u8 0, .int .u8 0, .int .u8 0, .int .u8 0, .int .u8 0, .int .u8 0, .int .u8 0, .int .u8 0], .arr 16 333⟩ (.node (.node (.node (.node (.nil) 339 ⟨1, 8, .pointer none, .ptr 341⟩ (.nil)) 341 ⟨2, 32, .agg #[.pointer none, .slice none 0 0], .st [(0, 1, false), (1, 1, false)]⟩ (.nil)) 345 ⟨1, 8, .int .i64 0, .int .i64⟩ (.node (.nil) 347 ⟨1, 8, .pointer none, .ptr 353⟩ (.nil))) 350 ⟨1, 8, .pointer none, .ptr 5⟩ (.node (.node (.nil) 353 ⟨3, 48, .agg #[str [], str [], .nilIface], .st [(0, 1, false), (1, 1, false), (2, 1, false)]⟩ (.nil)) 359 ⟨1, 8, .pointer none, .ptr 361⟩ (.node (.nil) 361 ⟨1, 16, .agg #[str []], .st [(0, 1, false)]⟩ (.nil))))))
theorem tOK : tb.Ok Tryz.prog := ⟨⟨⟨⟨⟨⟨⟨trivial, tk2, trivial⟩, tk3, trivial⟩, tk4, ⟨trivial, tk5, trivial⟩⟩, tk9, ⟨⟨trivial, tk21, trivial⟩, tk22, ⟨trivial, tk26, trivial⟩⟩⟩, tk27, ⟨⟨⟨⟨trivial, tk29, trivial⟩, tk32, trivial⟩, tk33, ⟨trivial, tk46, trivial⟩⟩, tk48, ⟨⟨trivial, tk52, trivial⟩, tk56, ⟨trivial, tk65, trivial⟩⟩⟩⟩, tk74, ⟨⟨⟨⟨⟨trivial, tk75, trivial⟩, tk77, trivial⟩, tk79, ⟨trivial, tk87, trivial⟩⟩, tk90, ⟨⟨trivial, tk91, trivial⟩, tk93, ⟨trivial, tk95, trivial⟩⟩⟩, tk98, ⟨⟨⟨⟨trivial, tk101, trivial⟩, tk108, trivial⟩, tk117, ⟨trivial, tk124, trivial⟩⟩, tk127, ⟨⟨trivial, tk138, trivial⟩, tk163, ⟨trivial, tk167, trivial⟩⟩⟩⟩⟩, tk172, ⟨⟨⟨⟨⟨⟨trivial, tk182, trivial⟩, tk183, trivial⟩, tk185, ⟨trivial, tk197, trivial⟩⟩, tk199, ⟨⟨trivial, tk201, trivial⟩, tk203, ⟨trivial, tk212, trivial⟩⟩⟩, tk217, ⟨⟨⟨⟨trivial, tk223, trivial⟩, tk232, trivial⟩, tk234, ⟨trivial, tk254, trivial⟩⟩, tk259, ⟨⟨trivial, tk262, trivial⟩, tk264, ⟨trivial, tk266, trivial⟩⟩⟩⟩, tk272, ⟨⟨⟨⟨⟨trivial, tk296, trivial⟩, tk304, trivial⟩, tk305, ⟨trivial, tk318, trivial⟩⟩, tk329, ⟨⟨trivial, tk330, trivial⟩, tk331, ⟨trivial, tk333, trivial⟩⟩⟩, tk334, ⟨⟨⟨⟨trivial, tk339, trivial⟩, tk341, trivial⟩, tk345, ⟨trivial, tk347, trivial⟩⟩, tk350, ⟨⟨trivial, tk353, trivial⟩, tk359, ⟨trivial, tk361, trivial⟩⟩⟩⟩⟩⟩
end Go.Proofs.YtomkgfdigldhcaaGreatDoor
/- Walks: WA. -/
namespace Go.Proofs.YtomkgfdigldhcaaGreatDoor
open Go.KX
set_option maxRecDepth 100000 in
theorem vnan_ok  : Fc Tryz.prog gT 205 [] (vS nanV) := by
 refine fb tOK (fn := Tryz.f205) 2 [.cell 0 26] Tryz.func205 Tryz.results205 (fun g0 B0 Q ρ0 R => ?_)
 refine en tOK 0 1 [] ?_
 refine sn tOK 0 2 [] ?_
 refine sr 0 R ?_
 rfl
set_option maxRecDepth 100000 in
theorem vplus_ok  : Fc Tryz.prog gT 226 [] (vS plusV) := by
 refine fb tOK (fn := Tryz.f226) 2 [.cell 0 26] Tryz.func226 Tryz.results226 (fun g0 B0 Q ρ0 R => ?_)
 refine en tOK 0 1 [] ?_
 refine sn tOK 0 2 [] ?_
 refine sr 0 R ?_
 rfl
set_option maxRecDepth 100000 in
theorem vminus_ok  : Fc Tryz.prog gT 227 [] (vS minusV) := by
 refine fb tOK (fn := Tryz.f227) 2 [.cell 0 26] Tryz.func227 Tryz.results227 (fun g0 B0 Q ρ0 R => ?_)
 refine en tOK 0 1 [] ?_
 refine sn tOK 0 2 [] ?_
 refine sr 0 R ?_
 rfl
set_option maxRecDepth 100000 in
theorem vnull_ok  : Fc Tryz.prog gT 87 [] (vS nullV) := by
 refine fb tOK (fn := Tryz.f87) 2 [.cell 0 26] Tryz.func87 Tryz.results87 (fun g0 B0 Q ρ0 R => ?_)
 refine en tOK 0 1 [] ?_
 refine sn tOK 0 2 [] ?_
 refine sr 0 R ?_
 rfl
set_option maxRecDepth 100000 in
theorem vnum_ok {n : Int} : Fc Tryz.prog gT 156 [nI n] (vS (numV n)) := by
 refine fb tOK (fn := Tryz.f156) 13 [.cell 2 26] Tryz.func156 Tryz.results156 (fun g0 B0 Q ρ0 R => ?_)
 refine en tOK 0 1 [] ?_
 refine sn tOK 0 3 [] ?_
 refine si 0 rfl rfl (fun h3 => ?_) (fun h3 => ?_)
 ·have e : numV n = plusV := by unfold numV; rw [if_pos h3]
  refine en tOK 0 0 [] ?_
  refine fc tOK 1 [] (vplus_ok) ?_
  refine sr 0 R ?_
  rw [e]; rfl
 ·refine en tOK 0 3 [] ?_
  refine si 0 rfl rfl (fun h7 => ?_) (fun h7 => ?_)
  ·have e : numV n = minusV := by unfold numV; rw [if_neg h3, if_pos h7]
   refine en tOK 0 0 [] ?_
   refine fc tOK 1 [] (vminus_ok) ?_
   refine sr 0 R ?_
   rw [e]; rfl
  ·have e : numV n = ⟨1, n⟩ := by unfold numV; rw [if_neg h3, if_neg h7]
   refine en tOK 0 3 [] ?_
   refine sr 0 R ?_
   rw [e]; rfl
set_option maxRecDepth 100000 in
theorem vtruth_ok {b : Bool} : Fc Tryz.prog gT 234 [.v (.bool b)] (vS (truthV b)) := by
 refine fb tOK (fn := Tryz.f234) 6 [.cell 2 26] Tryz.func234 Tryz.results234 (fun g0 B0 Q ρ0 R => ?_)
 refine en tOK 0 1 [] ?_
 refine sn tOK 0 1 [] ?_
 refine sib 0 rfl rfl (fun h3 => ?_) (fun h3 => ?_)
 ·refine en tOK 0 0 [] ?_
  refine fc tOK 1 [] (vnum_ok) ?_
  refine sr 0 R ?_
  rw [h3]; rfl
 ·refine en tOK 0 0 [] ?_
  refine fc tOK 1 [] (vnum_ok) ?_
  refine sr 0 R ?_
  rw [h3]; rfl
set_option maxRecDepth 100000 in
theorem vback_ok {n : Int} : Fc Tryz.prog gT 239 [nI n] (vS (numV n)) := by
 refine fb tOK (fn := Tryz.f239) 5 [.cell 2 26] Tryz.func239 Tryz.results239 (fun g0 B0 Q ρ0 R => ?_)
 refine en tOK 0 1 [] ?_
 refine sn tOK 0 1 [] ?_
 refine fc tOK 1 [] (vnum_ok) ?_
 refine sr 0 R ?_
 rfl
set_option maxRecDepth 100000 in
theorem vrank_ok {v : Val} : Fc Tryz.prog gT 240 [vS v] (nI (rankV v)) := by
 refine fb tOK (fn := Tryz.f240) 11 [.tmp 2] Tryz.func240 Tryz.results240 (fun g0 B0 Q ρ0 R => ?_)
 refine en tOK 0 2 [] ?_
 refine sn tOK 0 2 [] ?_
 refine sn tOK 0 2 [] ?_
 refine si 0 rfl rfl (fun h5 => ?_) (fun h5 => ?_)
 ·refine en tOK 0 1 [] ?_
  refine sr 0 R ?_
  simp [resVS, rankV, *]
 ·refine en tOK 0 2 [] ?_
  refine si 0 rfl rfl (fun h7 => ?_) (fun h7 => ?_)
  ·refine en tOK 0 1 [] ?_
   refine sr 0 R ?_
   simp [resVS, rankV, *]
  ·refine en tOK 0 3 [] ?_
   refine sr 0 R ?_
   simp [resVS, rankV, *]
set_option maxRecDepth 100000 in
theorem vsign_ok {v : Val} : Fc Tryz.prog gT 293 [vS v] (nI (signV v)) := by
 refine fb tOK (fn := Tryz.f293) 7 [.tmp 2] Tryz.func293 Tryz.results293 (fun g0 B0 Q ρ0 R => ?_)
 refine en tOK 0 2 [] ?_
 refine sn tOK 0 1 [] ?_
 refine fc tOK 3 [] (vrank_ok) ?_
 refine sr 0 R ?_
 simp only [resVS]; rw [sgn_mm]; rfl
set_option maxRecDepth 100000 in
theorem vinf_ok {n : Int} : Fc Tryz.prog gT 294 [nI n] (vS (infV n)) := by
 refine fb tOK (fn := Tryz.f294) 11 [.cell 2 26] Tryz.func294 Tryz.results294 (fun g0 B0 Q ρ0 R => ?_)
 refine en tOK 0 1 [] ?_
 refine sn tOK 0 2 [] ?_
 refine si 0 rfl rfl (fun h4 => ?_) (fun h4 => ?_)
 ·have e : infV n = nanV := by unfold infV; rw [if_pos h4]
  refine en tOK 0 0 [] ?_
  refine fc tOK 1 [] (vnan_ok) ?_
  refine sr 0 R ?_
  rw [← e]; rfl
 ·have e : numV (min (max n (-1)) 1 * 1000000000000001) = infV n := inf_mm h4
  refine en tOK 0 4 [] ?_
  refine fc tOK 1 [] (vback_ok) ?_
  refine sr 0 R ?_
  rw [← e]; rfl
set_option maxRecDepth 100000 in
theorem vfin_ok {v : Val} : Fc Tryz.prog gT 232 [vS v] (SV.v (.bool (finV v))) := by
 refine fb tOK (fn := Tryz.f232) 6 [.tmp 2] Tryz.func232 Tryz.results232 (fun g0 B0 Q ρ0 R => ?_)
 refine en tOK 0 2 [] ?_
 refine sn tOK 0 4 [] ?_
 refine sr 0 R ?_
 rfl
set_option maxRecDepth 100000 in
theorem vtrue_ok {v : Val} : Fc Tryz.prog gT 89 [vS v] (SV.v (.bool (trueV v))) := by
 refine fb tOK (fn := Tryz.f89) 21 [.tmp 2] Tryz.func89 Tryz.results89 (fun g0 B0 Q ρ0 R => ?_)
 refine en tOK 0 2 [] ?_
 refine sn tOK 0 19 [] ?_
 refine sr 0 R ?_
 simp [resVS, trueV, Bool.and_assoc]
set_option maxRecDepth 100000 in
theorem vis_ok {v : Val} : Fc Tryz.prog gT 117 [vS v] (SV.v (.bool (isV v))) := by
 refine fb tOK (fn := Tryz.f117) 23 [.tmp 2] Tryz.func117 Tryz.results117 (fun g0 B0 Q ρ0 R => ?_)
 refine en tOK 0 2 [] ?_
 refine sn tOK 0 2 [] ?_
 refine sn tOK 0 2 [] ?_
 refine si 0 rfl rfl (fun h5 => ?_) (fun h5 => ?_)
 ·refine en tOK 0 9 [] ?_
  refine sr 0 R ?_
  simp [resVS, isV, *] <;> omega
 ·refine en tOK 0 2 [] ?_
  refine si 0 rfl rfl (fun h15 => ?_) (fun h15 => ?_)
  ·refine ei 0 rfl rfl (fun h15 => ?_) (fun h15 => ?_)
   ·refine en tOK 0 4 [] ?_
    refine sr 0 R ?_
    simp [resVS, isV, *] <;> omega
   ·refine en tOK 0 1 [] ?_
    refine sr 0 R ?_
    simp [resVS, isV, *] <;> omega
  ·refine en tOK 0 2 [] ?_
   refine si 0 rfl rfl (fun h15 => ?_) (fun h15 => ?_)
   ·refine ei 0 rfl rfl (fun h15 => ?_) (fun h15 => ?_)
    ·refine en tOK 0 4 [] ?_
     refine sr 0 R ?_
     simp [resVS, isV, *] <;> omega
    ·refine en tOK 0 1 [] ?_
     refine sr 0 R ?_
     simp [resVS, isV, *] <;> omega
   ·refine en tOK 0 2 [] ?_
    refine si 0 rfl rfl (fun h15 => ?_) (fun h15 => ?_)
    ·refine ei 0 rfl rfl (fun h15 => ?_) (fun h15 => ?_)
     ·refine en tOK 0 4 [] ?_
      refine sr 0 R ?_
      simp [resVS, isV, *] <;> omega
     ·refine en tOK 0 1 [] ?_
      refine sr 0 R ?_
      simp [resVS, isV, *] <;> omega
    ·refine en tOK 0 2 [] ?_
     refine si 0 rfl rfl (fun h15 => ?_) (fun h15 => ?_)
     ·refine en tOK 0 4 [] ?_
      refine sr 0 R ?_
      simp [resVS, isV, *] <;> omega
     ·refine en tOK 0 1 [] ?_
      refine sr 0 R ?_
      simp [resVS, isV, *] <;> omega
end Go.Proofs.YtomkgfdigldhcaaGreatDoor
/- Walks: WK. -/
namespace Go.Proofs.YtomkgfdigldhcaaGreatDoor
open Go.KX
set_option maxRecDepth 100000 in
theorem run_ok {s g : Bytes} (hs : s.length ≤ 1000000) : Fc Tryz.prog gT 116 [.str s, .str g] (nI (runB g s)) := by
 refine fb tOK (fn := Tryz.f116) 21 [.tmp 4] Tryz.func116 Tryz.results116 (fun g0 B0 Q ρ0 R => ?_)
 refine en tOK 0 1 [] ?_
 refine sn tOK 0 3 [] ?_
 refine sl 0 ?_
 refine E_loop (σ := Nat) (fun j => j ≤ s.length ∧ ∀ x ∈ s.take j, x ∈ g) (fun j => s.length - j)
   (fun j => [(0, .str s), (1, .str g), (7, nI s.length), (8, nI j)])
   (fun j => []) 0 ?_ ?_
 ·exact ⟨Nat.zero_le _, by simp⟩
 ·rintro J j ⟨hj0, hj1⟩ hJ
  refine en tOK 0 1 [] ?_
  refine si 0 rfl rfl (fun h9 => ?_) (fun h9 => ?_)
  ·have hj : j < s.length := by omega
   have ec : s.getD ((j : Int)).toNat 0 = s[j] := by simp [List.getD_eq_getElem?_getD, hj]
   refine en tOK 0 2 [] ?_
   refine sn tOK 0 4 [] ?_
   refine fc tOK 1 [] (ib_ok (n := ((s.getD ((j : Int)).toNat 0).toNat : Int)) (c := s[j]) (by rw [ec])) ?_
   refine si 0 rfl rfl (fun h16 => ?_) (fun h16 => ?_)
   ·have hx : s[j] ∉ g := (ib_mem _ _).1 h16
    have e : runB g s = j := by
      rw [runB_add hj0 hj1, List.drop_eq_getElem_cons hj]
      have : runB g (s[j] :: s.drop (j + 1)) = 0 := by unfold runB; rw [if_neg hx]
      omega
    refine en tOK 0 2 [] ?_
    refine sr 0 R ?_
    rw [e]; rfl
   ·have hx : s[j] ∈ g := Classical.byContradiction fun h => h16 ((ib_mem _ _).2 h)
    refine en tOK 0 2 [] ?_
    exact hJ (j + 1) ⟨by omega, take_next hj hj1 hx⟩ (by omega)
  ·have e : runB g s = s.length := by
     have hjj : j = s.length := by omega
     rw [runB_add hj0 hj1, hjj, List.drop_length]; rfl
   refine en tOK 0 3 [] ?_
   refine sr 0 R ?_
   rw [e]; rfl
end Go.Proofs.YtomkgfdigldhcaaGreatDoor
/- Walks: WL. -/
namespace Go.Proofs.YtomkgfdigldhcaaGreatDoor
open Go.KX
set_option maxRecDepth 100000 in
theorem idxB_ok {l : List Bytes} {v : Bytes} : Fc Tryz.prog gT 133 [rB l, .str v] (nI (idxF (fun x => decide (v = x)) l)) := by
 refine fb tOK (fn := Tryz.f133) 19 [.tmp 4] Tryz.func133 Tryz.results133 (fun g0 B0 Q ρ0 R => ?_)
 refine en tOK 0 1 [] ?_
 refine sn tOK 0 3 [] ?_
 refine sl 0 ?_
 refine E_loop (σ := Nat) (fun j => j ≤ l.length ∧ ∀ x ∈ l.take j, decide (v = x) = false) (fun j => l.length - j)
   (fun j => [(0, rB l), (1, .str v), (4, nI 0), (7, nI l.length), (8, nI j)])
   (fun j => []) 0 ?_ ?_
 ·exact ⟨Nat.zero_le _, by simp⟩
 ·rintro J j ⟨hj0, hj1⟩ hJ
  refine elen 0 rfl (fun hl => ?_)
  simp only [List.length_map] at hl
  refine en tOK 0 1 [] ?_
  refine si 0 rfl rfl (fun h9 => ?_) (fun h9 => ?_)
  ·have hj : j < l.length := by omega
   refine en tOK 0 2 [] ?_
   refine sn tOK 0 6 [[.str l[j]]] ?_ (hφ := by exact ⟨by omega, row_at _ hj⟩)
   refine si 0 rfl rfl (fun h16 => ?_) (fun h16 => ?_)
   ·have e := idxF_some (p := fun x => decide (v = x)) hj hj1 (by simpa using h16)
    refine en tOK 0 2 [] ?_
    refine sr 0 R ?_
    rw [e]; rfl
   ·have hx : decide (v = l[j]) = false := by simpa using h16
    refine en tOK 0 2 [] ?_
    exact hJ (j + 1) ⟨by omega, take_next hj hj1 hx⟩ (by omega)
  ·have e := idxF_none (p := fun x => decide (v = x)) (fun x hx => hj1 x (by rw [List.take_of_length_le (by omega)]; exact hx))
   refine en tOK 0 1 [] ?_
   refine sr 0 R ?_
   rw [e]; rfl
set_option maxRecDepth 100000 in
theorem contB_ok {l : List Bytes} {v : Bytes} : Fc Tryz.prog gT 81 [rB l, .str v] (bS (decide (v ∈ l))) := by
 refine fb tOK (fn := Tryz.f81) 9 [.tmp 4] Tryz.func81 Tryz.results81 (fun g0 B0 Q ρ0 R => ?_)
 refine en tOK 0 1 [] ?_
 refine sn tOK 0 2 [] ?_
 refine fc tOK 2 [] (idxB_ok) ?_
 refine sr 0 R ?_
 have e : decide (v ∈ l) = (l.any fun x => decide (v = x)) := by simp [List.any_eq, eq_comm]
 rw [e, ← idxF_any]; rfl
set_option maxRecDepth 100000 in
theorem fails_ok {s : Bytes} {p : Ps} {er a : Int} : Fp Tryz.prog gT 64 [.l 1000 0, nI er, nI a] (psC s p) (.t []) (psC s (p.fails er a)) := by
 refine fpb tOK (fn := Tryz.f64) 22 [] Tryz.func64 Tryz.results64 (fun g0 B0 Q ρ0 R => ?_)
 refine en tOK 0 5 [] ?_
 refine sib 0 rfl rfl (fun h10 => ?_) (fun h10 => ?_)
 ·have hd : p.dead = false := by simpa using h10
  have ef : p.fails er a = ⟨p.i, er, a, true⟩ := by unfold Ps.fails; rw [if_neg (by simp [hd])]
  refine en tOK 0 14 [] ?_
  refine sfp 0 R ?_
  exact ⟨rfl, by rw [ef] <;> rfl⟩
 ·have ef : p.fails er a = p := by unfold Ps.fails; rw [if_pos (by simpa using h10)]
  refine efp 0 R ?_
  exact ⟨rfl, by rw [ef] <;> rfl⟩
set_option maxRecDepth 100000 in
theorem rest_ok {s : Bytes} {p : Ps} (hi : p.i ≤ s.length) (hs : s.length ≤ 1024) : Fp Tryz.prog gT 63 [.l 1000 0] (psC s p) (.str (p.restT s)) (psC s (p.restP s)) := by
 refine fpb tOK (fn := Tryz.f63) 33 [.tmp 2] Tryz.func63 Tryz.results63 (fun g0 B0 Q ρ0 R => ?_)
 refine en tOK 0 1 [] ?_
 refine sn tOK 0 4 [] ?_
 refine sib 0 rfl rfl (fun h6 => ?_) (fun h6 => ?_)
 ·have e1 : p.restT s = [] := by unfold Ps.restT; rw [if_pos h6]
  have e2 : p.restP s = p := by unfold Ps.restP; rw [if_pos h6]
  refine en tOK 0 1 [] ?_
  refine srp 0 R ?_
  exact ⟨by rw [e1] <;> rfl, by rw [e2] <;> rfl⟩
 ·have hr := runB_le [32] (s.drop p.i)
  have hr2 : (s.drop p.i).length = s.length - p.i := by simp
  have e2 : p.restP s = { p with i := p.i + runB [32] (s.drop p.i) } := by unfold Ps.restP; rw [if_neg (by simp [h6])]
  have e1 : p.restT s = s.drop (p.i + runB [32] (s.drop p.i)) := by unfold Ps.restT; rw [if_neg (by simp [h6]), e2]
  refine edr 0 131072 [0, 1, 3, 7, 0, 16, 48, 112, 0, 256, 768, 1792, 4080, 8176, 16383, 32767, 65535, 131071] [0, 1, 2, 3, 4, 5, 6, 7, 8, 9, 10, 11, 12, 13, 14, 15, 16, 17] ?_
  refine xd tOK 13 [] ?_
  refine dc tOK 4 [] (run_ok (s := s.drop p.i) (by omega)) ?_
  refine xe ?_
  refine sdr 0 0 [0, 1, 3, 7, 0, 16, 48, 112, 255, 511] [0, 1, 2, 3, 4, 5, 6, 7, 8, 9] ?_
  refine xd tOK 10 [] ?_
  refine xe ?_
  refine srp 0 R ?_
  exact ⟨by rw [e1] <;> rfl, by rw [e2] <;> rfl⟩
set_option maxRecDepth 100000 in
theorem take_ok {s : Bytes} {l : List Bytes} {p : Ps} (hi : p.i ≤ s.length) (hs : s.length ≤ 1024) : Fp Tryz.prog gT 168 [.l 1000 0, rB l] (psC s p) (.t [.str ((takeT s l p).getD []), bS (takeT s l p).isSome]) (psC s (takeP s l p)) := by
 refine fpb tOK (fn := Tryz.f168) 32 [.tmp 4, .tmp 5] Tryz.func168 Tryz.results168 (fun g0 B0 Q ρ0 R => ?_)
 refine en tOK 0 2 [] ?_
 refine sn tOK 0 1 [] ?_
 refine fp tOK 1000 1 [] (rest_ok (by omega) (by omega)) ?_
 refine sn tOK 0 0 [] ?_
 have hle := rest_le (s := s) hi
 refine glo tOK 1 [] (r := .a (signsT.map .str)) signs_den ?_
 
 refine sl 0 ?_
 refine E_loop (σ := Nat) (fun j => j ≤ 15 ∧ ∀ x ∈ signsT.take j, Lib.hasPrefix (p.restT s) x = false) (fun j => 15 - j)
   (fun j => [(0, .l 1000 0), (1, rB l), (6, .str (p.restT s)), (11, .a (signsT.map .str)), (12, nI j)])
   (fun j => [(1000, psC s (p.restP s))]) 0 ?_ ?_
 ·exact ⟨Nat.zero_le _, by simp⟩
 ·rintro J j ⟨hj0, hj1⟩ hJ
  refine en tOK 0 1 [] ?_
  refine si 0 rfl rfl (fun h13 => ?_) (fun h13 => ?_)
  ·have hjl : j < 15 := by omega
   have hj : j < signsT.length := hjl
   refine en tOK 0 0 [] ?_
   refine ixg tOK 1 [] (n := 15) (z := (j : Int)) (cs := signsT.map .str) (.str signsT[j]) (by omega) (by simp [hj]) ?_
   
   refine sn tOK 0 2 [] ?_
   refine fc tOK 0 [] (hp_ok) ?_
   refine sib 0 rfl rfl (fun h17 => ?_) (fun h17 => ?_)
   ·have e1 : firstSign (p.restT s) = some signsT[j] := find_at hj hj1 h17
    refine en tOK 0 2 [] ?_
    refine fc tOK 0 [] (contB_ok) ?_
    refine sib 0 rfl rfl (fun h20 => ?_) (fun h20 => ?_)
    ·have h20 := of_decide_eq_true h20
     have e2 : takeT s l p = some signsT[j] := by unfold takeT; rw [e1]; simp only; rw [if_pos h20]
     have e3 : takeP s l p = { p.restP s with i := (p.restP s).i + signsT[j].length } := by unfold takeP; rw [e2]
     have hsl : signsT[j].length ≤ 2 := (show ∀ x ∈ signsT, x.length ≤ 2 by decide) _ (List.getElem_mem hj)
     refine en tOK 0 10 [] ?_
     refine sn tOK 0 3 [] ?_
     refine srp 0 R ?_
     exact ⟨by rw [e2] <;> rfl, by rw [e3] <;> rfl⟩
    ·have h20 := of_decide_eq_false h20
     have e2 : takeT s l p = none := by unfold takeT; rw [e1]; simp only; rw [if_neg h20]
     have e3 : takeP s l p = p.restP s := by unfold takeP; rw [e2]
     refine en tOK 0 2 [] ?_
     refine srp 0 R ?_
     exact ⟨by rw [e2] <;> rfl, by rw [e3] <;> rfl⟩
   ·have hx := h17
    refine en tOK 0 2 [] ?_
    exact hJ (j + 1) ⟨by omega, take_next hj hj1 hx⟩ (by omega)
  ·have hj15 : signsT.take j = signsT := by rw [List.take_of_length_le]; show 15 ≤ j; omega
   rw [hj15] at hj1
   have e1 : firstSign (p.restT s) = none := List.find?_eq_none.2 (fun x hx => by simp [hj1 x hx])
   have e2 : takeT s l p = none := by unfold takeT; rw [e1]
   have e3 : takeP s l p = p.restP s := by unfold takeP; rw [e2]
   refine en tOK 0 2 [] ?_
   refine srp 0 R ?_
   exact ⟨by rw [e2] <;> rfl, by rw [e3] <;> rfl⟩
set_option maxRecDepth 100000 in
theorem must_ok {s x : Bytes} {p : Ps} (hi : p.i ≤ s.length) (hs : s.length ≤ 1024) : Fp Tryz.prog gT 297 [.l 1000 0, .str x] (psC s p) (.t []) (psC s (mustP s x p)) := by
 refine fpb tOK (fn := Tryz.f297) 21 [] Tryz.func297 Tryz.results297 (fun g0 B0 Q ρ0 R => ?_)
 refine en tOK 0 3 [] ?_
 refine fp tOK 1000 5 [] (take_ok (l := [x]) hi hs) ?_
 refine sn tOK 0 2 [] ?_
 refine sib 0 rfl rfl (fun h14 => ?_) (fun h14 => ?_)
 ·have e1 : takeT s [x] p = none := by simpa using h14
  have e2 : mustP s x p = (takeP s [x] p).fails 110 (takeP s [x] p).i := by unfold mustP; rw [e1]
  refine en tOK 0 5 [] ?_
  refine fp tOK 1000 0 [] (fails_ok) ?_
  refine sfp 0 R ?_
  exact ⟨rfl, by rw [e2] <;> rfl⟩
 ·obtain ⟨y, e1⟩ : ∃ y, takeT s [x] p = some y := Option.isSome_iff_exists.1 (by simpa using h14)
  have e2 : mustP s x p = takeP s [x] p := by unfold mustP; rw [e1]
  refine efp 0 R ?_
  exact ⟨rfl, by rw [e2] <;> rfl⟩
set_option maxRecDepth 100000 in
theorem enter_ok {s : Bytes} {p : Ps} {d : Nat} (hi : p.i ≤ s.length) (hs : s.length ≤ 1024) : Fp Tryz.prog gT 114 [.l 1000 0, nI d] (psC s p) (.t []) (psC s (enterP s d p)) := by
 refine fpb tOK (fn := Tryz.f114) 14 [] Tryz.func114 Tryz.results114 (fun g0 B0 Q ρ0 R => ?_)
 refine en tOK 0 1 [] ?_
 refine fp tOK 1000 0 [] (rest_ok (by omega) (by omega)) ?_
 refine sn tOK 0 2 [] ?_
 refine si 0 rfl rfl (fun h7 => ?_) (fun h7 => ?_)
 ·have e2 : enterP s d p = (p.restP s).fails 111 (p.restP s).i := by unfold enterP; rw [if_pos (by omega)]
  refine en tOK 0 5 [] ?_
  refine fp tOK 1000 0 [] (fails_ok) ?_
  refine sfp 0 R ?_
  exact ⟨rfl, by rw [e2] <;> rfl⟩
 ·have e2 : enterP s d p = p.restP s := by unfold enterP; rw [if_neg (by omega)]
  refine efp 0 R ?_
  exact ⟨rfl, by rw [e2] <;> rfl⟩
set_option maxRecDepth 100000 in
theorem call2_ok {o : Bytes} {x y : Ex} : Fc Tryz.prog gT 169 [.str o, .s 5 [exL x, exL y]] (exS (exC o [x, y])) := by
 refine fb tOK (fn := Tryz.f169) 8 [.cell 4 29] Tryz.func169 Tryz.results169 (fun g0 B0 Q ρ0 R => ?_)
 refine en tOK 0 1 [] ?_
 refine sn tOK 0 4 [] ?_
 refine sr 0 R ?_
 rw [ex_pair]; rfl
set_option maxRecDepth 100000 in
theorem call1_ok {o : Bytes} {x : Ex} : Fc Tryz.prog gT 169 [.str o, .s 5 [exL x]] (exS (exC o [x])) := by
 refine fb tOK (fn := Tryz.f169) 8 [.cell 4 29] Tryz.func169 Tryz.results169 (fun g0 B0 Q ρ0 R => ?_)
 refine en tOK 0 1 [] ?_
 refine sn tOK 0 4 [] ?_
 refine sr 0 R ?_
 rw [ex_one]; rfl
set_option maxRecDepth 100000 in
theorem function_ok {w : Bytes} : Fc Tryz.prog gT 67 [.str w] (bS (functionB w)) := by
 refine fb tOK (fn := Tryz.f67) 6 [.tmp 2] Tryz.func67 Tryz.results67 (fun g0 B0 Q ρ0 R => ?_)
 refine en tOK 0 1 [] ?_
 refine sn tOK 0 2 [] ?_
 refine fc tOK 1 [] (contB_ok (l := [oAbs, oFloor, oNull, oNan, oInf, oNum])) ?_
 refine sr 0 R ?_
 rfl
set_option maxRecDepth 100000 in
theorem ref_ok {w : Bytes} (hs : w.length ≤ 1000000) : Fc Tryz.prog gT 125 [.str w] (bS (refB w)) := by
 refine fb tOK (fn := Tryz.f125) 23 [.tmp 2] Tryz.func125 Tryz.results125 (fun g0 B0 Q ρ0 R => ?_)
 refine en tOK 0 1 [] ?_
 refine sn tOK 0 10 [] ?_ (hφ := by
   refine ⟨fun h => ?_, id, id, id, id⟩
   cases w with
   | nil => simp at h
   | cons _ _ => exact ⟨by omega, by simp⟩)
 refine fg tOK 4 [] (fun hg => ib_ok (c := w.getD 0 0) rfl) ?_
 refine fg tOK 5 [] (fun hg => run_ok hs) ?_
 refine sr 0 R ?_
 cases w with
 | nil => rfl
 | cons c r =>
   have e : (decide (¬ (c :: r : Bytes) = []) && decide (((c :: r).length : Int) ≤ 16) && decide (0 ≤ Lib.indexByte gGreat c) && decide ((runB gLD (c :: r) : Int) = ((c :: r).length : Int))) = refB (c :: r) := by
     have a3 := ib_ge gGreat c
     have a2 : decide (((c :: r).length : Int) ≤ 16) = decide ((c :: r).length ≤ 16) := decide_eq_decide.2 (by omega)
     have a4 : decide ((runB gLD (c :: r) : Int) = ((c :: r).length : Int)) = decide (runB gLD (c :: r) = (c :: r).length) := decide_eq_decide.2 (by omega)
     rw [a2, a3, a4]
     simp [refB]
   exact congrArg (fun b => SV.v (.bool b)) e
end Go.Proofs.YtomkgfdigldhcaaGreatDoor
/- Plain: a number of two words over 1000. No program in sight. -/
namespace Go.KX
theorem div_k {N Q r : Nat} (h : N * 4194304 = 4194304000 * Q + r) (hr : r < 4194304000) : Q = N / 1000 := by omega
theorem div_two {hi lo u v q1 r1 w q0 r0 : Nat} (hlo : lo < 18446744073709551616) (h : hi < 1000) (hu : u = hi * 18014398509481984 + lo / 1024) (hv : v = lo % 1024 * 4194304) (h1 : u = 4194304000 * q1 + r1) (h2 : r1 < 4194304000) (hw : w = r1 * 4294967296 + v) (h3 : w = 4194304000 * q0 + r0) (h4 : r0 < 4194304000) :
    q1 < 4294967296 ∧ q0 < 4294967296 ∧ w < 18014398509481984000 ∧ q1 * 4294967296 + q0 = (hi * 18446744073709551616 + lo) / 1000 := by
  have hv2 : v < 4294967296 := by omega
  have hu2 : u < 18014398509481984000 := by omega
  have hq1 : q1 < 4294967296 := by omega
  have hw2 : w < 18014398509481984000 := by omega
  have hq0 : q0 < 4294967296 := by omega
  have hm : lo = lo / 1024 * 1024 + lo % 1024 := by omega
  have e1 : (hi * 18446744073709551616 + lo) * 4194304 = 4194304000 * (q1 * 4294967296 + q0) + r0 := by
    generalize lo / 1024 = x at hm hu
    generalize lo % 1024 = y at hm hv
    subst hm hv
    omega
  exact ⟨hq1, hq0, hw2, div_k e1 h4⟩
theorem or_add {a b : Nat} (ha : a < 1024) (hb : b < 18014398509481984) : bits .or .u64 ((a * 18014398509481984 : Nat) : Int) (b : Int) = ((a * 18014398509481984 + b : Nat) : Int) := by
  rw [bits_or_u64_nat _ _ (by omega) (by omega)]
  congr 1
  have := Nat.shiftLeft_add_eq_or_of_lt (i := 54) (b := b) (by omega) a
  rw [Nat.shiftLeft_eq] at this
  exact this.symm
theorem wrapN {a : Nat} (ha : a < 18446744073709551616) : IntKind.wrap .u64 (a : Int) = (a : Int) := by rw [IntKind.wrap_u64]; omega
theorem u_eq {hi lo : Nat} (hh : hi < 1000) (hl : lo < 18446744073709551616) : bits .or .u64 (IntKind.wrap .u64 ((hi : Int) * 2 ^ (54 : Int).toNat)) ((lo : Int) / 2 ^ (IntKind.wrap .u64 (64 - 54)).toNat) = ((hi * 18014398509481984 + lo / 1024 : Nat) : Int) := by
  rw [show (IntKind.wrap .u64 (64 - 54)).toNat = 10 from rfl, show (54 : Int).toNat = 54 from rfl, show (hi : Int) * 2 ^ 54 = ((hi * 18014398509481984 : Nat) : Int) by omega, wrapN (by omega), show (lo : Int) / 2 ^ 10 = ((lo / 1024 : Nat) : Int) by omega]
  exact or_add (by omega) (by omega)
theorem low_eq (lo : Nat) : IntKind.wrap .u64 ((lo : Int) * 2 ^ (54 : Int).toNat) = ((lo % 1024 * 18014398509481984 : Nat) : Int) := by
  rw [IntKind.wrap_u64, show (54 : Int).toNat = 54 from rfl]; omega
theorem mid_eq (lo : Nat) : ((lo % 1024 * 18014398509481984 : Nat) : Int) / 2 ^ (32 : Int).toNat = ((lo % 1024 * 4194304 : Nat) : Int) := by
  rw [show (32 : Int).toNat = 32 from rfl]; omega
theorem mask_eq (lo : Nat) : bits .and .u64 ((lo % 1024 * 18014398509481984 : Nat) : Int) 4294967295 = 0 := by
  have h := bits_and_u64_nat (lo % 1024 * 18014398509481984) 4294967295 (by omega) (by omega)
  have e : (lo % 1024 * 18014398509481984) &&& 4294967295 = 0 := by
    rw [show (4294967295 : Nat) = 2 ^ 32 - 1 from rfl, Nat.and_two_pow_sub_one_eq_mod]; omega
  rw [e] at h
  exact h
theorem quo_eq {u : Nat} (h : u < 18446744073709551616) : IntKind.wrap .u64 ((u : Int).tdiv 4194304000) = ((u / 4194304000 : Nat) : Int) := by
  rw [show (4194304000 : Int) = ((4194304000 : Nat) : Int) from rfl, ← Int.ofNat_tdiv, wrapN (by omega)]
theorem rem_eq {u : Nat} (h : u < 18446744073709551616) : IntKind.wrap .u64 ((u : Int) - IntKind.wrap .u64 (((u / 4194304000 : Nat) : Int) * 4194304000)) = ((u % 4194304000 : Nat) : Int) := by
  rw [show ((u / 4194304000 : Nat) : Int) * 4194304000 = ((u / 4194304000 * 4194304000 : Nat) : Int) by omega, wrapN (by omega), show (u : Int) - ((u / 4194304000 * 4194304000 : Nat) : Int) = ((u % 4194304000 : Nat) : Int) by omega, wrapN (by omega)]
theorem quo0_eq {lo : Nat} (hl : lo < 18446744073709551616) : IntKind.wrap .u64 ((lo : Int).tdiv 1000) = (((0 * 18446744073709551616 + lo) / 1000 : Nat) : Int) := by
  rw [show (1000 : Int) = ((1000 : Nat) : Int) from rfl, ← Int.ofNat_tdiv, wrapN (by omega)]
  congr 2
  omega
theorem low_w {u v q1 r1 w : Nat} (hu : u = 4194304000 * q1 + r1) (_hr : r1 < 4194304000) (hw : w = r1 * 4294967296 + v) (bw : w < 18014398509481984000) : IntKind.wrap .u64 (IntKind.wrap .u64 (IntKind.wrap .u64 ((u : Int) * 4294967296) + (v : Int)) - IntKind.wrap .u64 ((q1 : Int) * 18014398509481984000)) = (w : Int) := by
  simp only [IntKind.wrap_u64]
  omega
theorem fin1 {q1 q0 Q : Nat} (b1 : q1 < 4294967296) (b0 : q0 < 4294967296) (hQ : q1 * 4294967296 + q0 = Q) : IntKind.wrap .u64 (IntKind.wrap .u64 ((q1 : Int) * 4294967296) + (q0 : Int)) = (Q : Int) := by
  simp only [IntKind.wrap_u64]
  omega
theorem fin_r {w q0 r0 : Nat} (h : w = 4194304000 * q0 + r0) (hr : r0 < 4194304000) : IntKind.wrap .u64 (IntKind.wrap .u64 (IntKind.wrap .u64 ((w : Int) * 4294967296) + 0) - IntKind.wrap .u64 ((q0 : Int) * 18014398509481984000)) = ((r0 * 4294967296 : Nat) : Int) := by
  simp only [IntKind.wrap_u64]
  omega
theorem t_eq {x y x' y' : Int} (h : x = x') (h2 : y = y') : SV.t [.v (.int .u64 x), .v (.int .u64 y)] = SV.t [.v (.int .u64 x'), .v (.int .u64 y')] := by rw [h, h2]
def rem1000 (hi lo : Nat) : Int := if hi = 0 then (lo : Int).tmod 1000 else (((hi * 18014398509481984 + lo / 1024) % 4194304000 * 4294967296 + lo % 1024 * 4194304) % 4194304000 / 4194304 : Nat)
theorem fin2 {hi lo u v r1 w q0 r0 : Nat} (h0 : hi ≠ 0) (hu : u = hi * 18014398509481984 + lo / 1024) (hv : v = lo % 1024 * 4194304) (hr1 : r1 = u % 4194304000) (hw : w = r1 * 4294967296 + v) (hq0 : q0 = w / 4194304000) (hr0 : r0 = w % 4194304000) :
    IntKind.wrap .u64 (IntKind.wrap .u64 (IntKind.wrap .u64 ((w : Int) * 4294967296) + 0) - IntKind.wrap .u64 ((q0 : Int) * 18014398509481984000)) / 2 ^ (54 : Int).toNat = rem1000 hi lo := by
  rw [fin_r (r0 := r0) (by omega) (by omega), rem1000, if_neg h0, ← hu, ← hv, ← hr1, ← hw, ← hr0, show (54 : Int).toNat = 54 from rfl]
  omega
end Go.KX
/- Walks: WJ. -/
namespace Go.Proofs.YtomkgfdigldhcaaGreatDoor
open Go.KX
set_option maxRecDepth 100000 in
theorem vprint_ok {v : Val} : Fc Tryz.prog gT 65 [vS v] (.str (printV v)) := by
 refine fb tOK (fn := Tryz.f65) 42 [.tmp 2] Tryz.func65 Tryz.results65 (fun g0 B0 Q ρ0 R => ?_)
 refine en tOK 0 2 [] ?_
 refine sn tOK 0 1 [] ?_
 refine fc tOK 1 [] (vis_ok) ?_
 refine sib 0 rfl rfl (fun h7 => ?_) (fun h7 => ?_)
 ·have e : printV v = [] := by unfold printV; rw [if_pos (by simpa using h7)]
  refine en tOK 0 1 [] ?_
  refine sr 0 R ?_
  first | (rw [e]; rfl) | (rw [e, e0]; rfl)
 ·have hv : isV v = true := by simpa using h7
  have hnn := isV_n hv
  refine en tOK 0 3 [] ?_
  refine si 0 rfl rfl (fun h10 => ?_) (fun h10 => ?_)
  ·have hc : v.k = 2 ∨ v.k = 3 ∨ v.k = 4 ∨ v.k = 5 := by rcases isV_cases hv with ⟨h, _⟩ | rfl | rfl | rfl | rfl <;> first | exact absurd h h10 | simp
   rcases hc with hk | hk | hk | hk
   ·refine en tOK 0 0 [] ?_
    refine bld tOK 2 [] #[(2, str [110, 117, 108, 108]), (3, str [78, 97, 78]), (4, str [43, 73, 110, 102]), (5, str [45, 73, 110, 102])] (.agg #[str [], str [], str [110, 117, 108, 108], str [78, 97, 78], str [43, 73, 110, 102], str [45, 73, 110, 102]]) (fun w => by kernel_rfl) ?_
    refine sas 13 rfl (v' := nI 2) ?_ ?_
    ·rw [hk]
    refine ixa tOK 1 [] (.str [110, 117, 108, 108]) (fun w => by kernel_rfl) (fun _ _ => .str) ?_
    have e : printV v = [110, 117, 108, 108] := by subst_vars; unfold printV; rw [if_neg (by simp [hv])]; simp [hk]
    
    refine sr 0 R ?_
    first | (rw [e]; rfl) | (rw [e, e0]; rfl)
   ·refine en tOK 0 0 [] ?_
    refine bld tOK 2 [] #[(2, str [110, 117, 108, 108]), (3, str [78, 97, 78]), (4, str [43, 73, 110, 102]), (5, str [45, 73, 110, 102])] (.agg #[str [], str [], str [110, 117, 108, 108], str [78, 97, 78], str [43, 73, 110, 102], str [45, 73, 110, 102]]) (fun w => by kernel_rfl) ?_
    refine sas 13 rfl (v' := nI 3) ?_ ?_
    ·rw [hk]
    refine ixa tOK 1 [] (.str [78, 97, 78]) (fun w => by kernel_rfl) (fun _ _ => .str) ?_
    have e : printV v = [78, 97, 78] := by subst_vars; unfold printV; rw [if_neg (by simp [hv])]; simp [hk]
    
    refine sr 0 R ?_
    first | (rw [e]; rfl) | (rw [e, e0]; rfl)
   ·refine en tOK 0 0 [] ?_
    refine bld tOK 2 [] #[(2, str [110, 117, 108, 108]), (3, str [78, 97, 78]), (4, str [43, 73, 110, 102]), (5, str [45, 73, 110, 102])] (.agg #[str [], str [], str [110, 117, 108, 108], str [78, 97, 78], str [43, 73, 110, 102], str [45, 73, 110, 102]]) (fun w => by kernel_rfl) ?_
    refine sas 13 rfl (v' := nI 4) ?_ ?_
    ·rw [hk]
    refine ixa tOK 1 [] (.str [43, 73, 110, 102]) (fun w => by kernel_rfl) (fun _ _ => .str) ?_
    have e : printV v = [43, 73, 110, 102] := by subst_vars; unfold printV; rw [if_neg (by simp [hv])]; simp [hk]
    
    refine sr 0 R ?_
    first | (rw [e]; rfl) | (rw [e, e0]; rfl)
   ·refine en tOK 0 0 [] ?_
    refine bld tOK 2 [] #[(2, str [110, 117, 108, 108]), (3, str [78, 97, 78]), (4, str [43, 73, 110, 102]), (5, str [45, 73, 110, 102])] (.agg #[str [], str [], str [110, 117, 108, 108], str [78, 97, 78], str [43, 73, 110, 102], str [45, 73, 110, 102]]) (fun w => by kernel_rfl) ?_
    refine sas 13 rfl (v' := nI 5) ?_ ?_
    ·rw [hk]
    refine ixa tOK 1 [] (.str [45, 73, 110, 102]) (fun w => by kernel_rfl) (fun _ _ => .str) ?_
    have e : printV v = [45, 73, 110, 102] := by subst_vars; unfold printV; rw [if_neg (by simp [hv])]; simp [hk]
    
    refine sr 0 R ?_
    first | (rw [e]; rfl) | (rw [e, e0]; rfl)
  ·have h1 : v.k = 1 := Decidable.byContradiction h10
   have hm : printV v = if v.n < 0 then 45 :: magV v.n.natAbs else magV v.n.natAbs := by unfold printV; rw [if_neg (by simp [hv]), if_neg (by omega), if_neg (by omega), if_neg (by omega), if_neg (by omega)]
   obtain ⟨N, hN⟩ : ∃ N : Nat, max v.n (0 - v.n) = N := ⟨v.n.natAbs, by omega⟩
   have hN2 : v.n.natAbs = N := by omega
   have ed : ((N : Int)).tdiv 1000 = ((N / 1000 : Nat) : Int) := by rw [show (1000 : Int) = ((1000 : Nat) : Int) from rfl, ← Int.ofNat_tdiv]
   have em : ((N : Int)).tmod 1000 = ((N % 1000 : Nat) : Int) := by rw [show (1000 : Int) = ((1000 : Nat) : Int) from rfl, ← Int.ofNat_tmod]
   have hlen1 := dec_len (n := N / 1000) (by omega)
   have hl4 : (Lib.decDigits (1000 + N % 1000)).length = 4 := by have := congrArg List.length (dec4 (r := N % 1000) (by omega)); simp at this; omega
   refine en tOK 0 7 [] ?_
   refine sas 3 rfl (v' := nI (N : Int)) ?_ ?_
   ·rw [hN]
   refine sn tOK 0 2 [] ?_
   refine fc tOK 1 [] (fmtI (p := IntKind.wrap .i64 ((N : Int).tdiv 1000)) (x := N / 1000) (by rw [ed]; exact wrap_i64 (by omega) (by omega)) (by omega)) ?_
   refine sn tOK 0 3 [] ?_
   refine si 0 rfl rfl (fun h26 => ?_) (fun h26 => ?_)
   ·have hr : N % 1000 ≠ 0 := by omega
    have hlt : (Lib.trimRightB ((Lib.decDigits (1000 + N % 1000)).drop 1) 48).length ≤ 3 := by have := trim_len ((Lib.decDigits (1000 + N % 1000)).drop 1); rw [List.length_drop, hl4] at this; exact this
    have e0 : magV N = Lib.decDigits (N / 1000) ++ ([46] ++ Lib.trimRightB ((Lib.decDigits (1000 + N % 1000)).drop 1) 48) := by unfold magV fracV; rw [if_neg hr]; rfl
    refine en tOK 0 4 [] ?_
    refine fc tOK 1 [] (fmtI (p := 1000 + (N : Int).tmod 1000) (x := 1000 + N % 1000) (by rw [em]; omega) (by omega)) ?_
    refine fc tOK 3 [] (trim0_ok (s := (Lib.decDigits (1000 + N % 1000)).drop 1) (by simp; omega)) ?_ (hφ := by simp only [conj, List.length_append]; show (Lib.decDigits (N / 1000)).length + (1 + (Lib.trimRightB ((Lib.decDigits (1000 + N % 1000)).drop 1) 48).length) ≤ 9223372036854775807 ∧ 1 + (Lib.trimRightB ((Lib.decDigits (1000 + N % 1000)).drop 1) 48).length ≤ 9223372036854775807; omega)
    refine sn tOK 0 3 [] ?_
    refine si 0 rfl rfl (fun h38 => ?_) (fun h38 => ?_)
    ·have e : printV v = [45] ++ magV N := by rw [hm, if_pos h38, hN2]; rfl
     refine en tOK 0 3 [] ?_ (hφ := by simp only [conj, List.length_append, List.length_cons, List.length_nil, List.length_drop]; omega)
     refine sr 0 R ?_
     first | (rw [e]; rfl) | (rw [e, e0]; rfl)
    ·have e : printV v = magV N := by rw [hm, if_neg h38, hN2]
     refine en tOK 0 2 [] ?_
     refine sr 0 R ?_
     first | (rw [e]; rfl) | (rw [e, e0]; rfl)
   ·have e0 : magV N = Lib.decDigits (N / 1000) := by unfold magV fracV; rw [if_pos (by omega), List.append_nil]
    refine en tOK 0 3 [] ?_
    refine si 0 rfl rfl (fun h38 => ?_) (fun h38 => ?_)
    ·have e : printV v = [45] ++ magV N := by rw [hm, if_pos h38, hN2]; rfl
     refine en tOK 0 3 [] ?_ (hφ := by simp only [conj, List.length_append, List.length_cons, List.length_nil, List.length_drop]; omega)
     refine sr 0 R ?_
     first | (rw [e]; rfl) | (rw [e, e0]; rfl)
    ·have e : printV v = magV N := by rw [hm, if_neg h38, hN2]
     refine en tOK 0 2 [] ?_
     refine sr 0 R ?_
     first | (rw [e]; rfl) | (rw [e, e0]; rfl)
end Go.Proofs.YtomkgfdigldhcaaGreatDoor
/- Walks: WM. -/
namespace Go.Proofs.YtomkgfdigldhcaaGreatDoor
open Go.KX
set_option maxRecDepth 100000 in
theorem vparse_ok {s : Bytes} (hs : s.length ≤ 1000000) : Fc Tryz.prog gT 320 [.str s] (.t [vS (parseV s).1, nI (parseV s).2]) := by
 refine fb tOK (fn := Tryz.f320) 84 [.cell 2 26, .tmp 3] Tryz.func320 Tryz.results320 (fun g0 B0 Q ρ0 R => ?_)
 refine en tOK 0 2 [] ?_
 refine sn tOK 0 0 [] ?_
 refine fc tOK 0 [] (vnull_ok) ?_
 refine fc tOK 0 [] (vnan_ok) ?_
 refine fc tOK 0 [] (vplus_ok) ?_
 refine fc tOK 3 [] (vminus_ok) ?_
 refine sl 0 ?_
 refine E_loop (σ := Nat) (fun j => j ≤ 4 ∧ ∀ v ∈ c4.take j, decide (s = printV v) = false) (fun j => 4 - j)
   (fun j => [(0, .str s), (2, .l 2 0), (18, rV c4), (19, nI 4), (20, nI j)])
   (fun j => [(2, .c 26 [nI 0, nI 0])]) 0 ?_ ?_
 ·exact ⟨Nat.zero_le _, by simp⟩
 ·rintro J j ⟨hj0, hj1⟩ hJ
  refine en tOK 0 1 [] ?_
  refine si 0 rfl rfl (fun h21 => ?_) (fun h21 => ?_)
  ·have hjl : j < 4 := by omega
   have hj : j < c4.length := hjl
   refine en tOK 0 4 [[nI c4[j].k, nI c4[j].n]] ?_ (hφ := by exact ⟨by omega, row_at _ hj⟩)
   refine sn tOK 0 2 [] ?_
   refine fc tOK 1 [] (vprint_ok) ?_
   refine si 0 rfl rfl (fun h27 => ?_) (fun h27 => ?_)
   ·have e := parse_c4 hj h27
    refine en tOK 0 3 [] ?_
    refine sr 0 R ?_
    first | (rw [e]; rfl) | (rw [← Int.zero_sub] at e; rw [e]; rfl)
   ·have hx : decide (s = printV c4[j]) = false := by simpa using h27
    refine en tOK 0 2 [] ?_
    exact hJ (j + 1) ⟨by omega, take_next hj hj1 hx⟩ (by omega)
  ·have hn4 := not4_of (fun v hv => hj1 v (by rw [List.take_of_length_le (show c4.length ≤ j by show 4 ≤ j; omega)]; exact hv))
   have hbl := Lib.trimPrefix_le s [45]
   refine en tOK 0 1 [] ?_
   refine fc tOK 5 [] (cutp_ok) ?_
   obtain ⟨w, f, b, hcut⟩ : ∃ w f b, Lib.cut (Lib.trimPrefix s [45]) [46] = (w, f, b) := ⟨_, _, _, rfl⟩
   have hC : Fc Tryz.prog gT 333 [.str (Lib.trimPrefix s [45]), .str [46]] (.t [.str w, .str f, bS b]) := by
     have h := cut_ok (s := Lib.trimPrefix s [45]) (p := [46]) (by omega)
     rw [hcut] at h
     exact h
   refine sn tOK 0 1 [] ?_
   refine fc tOK 7 [] (hC) ?_
   refine sn tOK 0 8 [] ?_
   refine sib 0 rfl rfl (fun h48 => ?_) (fun h48 => ?_)
   ·have hl : f.length ≤ 3 ∧ w.length ≤ 13 := by simp at h48; omega
    have hrl : (Lib.repeatL [48] (3 - f.length)).length = 3 - f.length := by rw [Lib.repeatL_length]; simp
    have h16 : (w ++ f ++ Lib.repeatL [48] (3 - f.length)).length ≤ 16 := by rw [List.length_append, List.length_append, hrl]; omega
    have hne : w ++ f ++ Lib.repeatL [48] (3 - f.length) ≠ [] := by
      intro h
      have h0 := congrArg List.length h
      rw [List.length_append, List.length_append, hrl] at h0
      have h1 : ([] : Bytes).length = 0 := rfl
      omega
    rcases hP : Lib.parseUintM M62 0 (w ++ f ++ Lib.repeatL [48] (3 - f.length)) with n | _ | _
    rotate_left 2
    ·exact absurd hP (uintM_16 h16).1
    ·refine en tOK 0 6 [] ?_
     refine sas 55 rfl (v' := nI ((3 - f.length : Nat) : Int)) ?_ ?_
     ·rw [show (3 : Int) - f.length = ((3 - f.length : Nat) : Int) by omega]
     refine fc tOK 1 [] (rep_ok (s := [48]) (c := 3 - f.length) (by show 1 * (3 - f.length) ≤ _; omega) (by omega) (by decide)) ?_ (hφ := by exact (show (w ++ f).length + (Lib.repeatL [48] (3 - f.length)).length ≤ 9223372036854775807 by rw [List.length_append, hrl]; omega))
     refine fc tOK 5 [] (uintG_ok hne h16 hP) ?_
     have hnb := (uintM_16 h16).2 n hP
     refine sn tOK 0 2 [] ?_
     refine fc tOK 2 [] (vnum_ok) ?_
     refine sn tOK 0 1 [] ?_
     refine sib 0 rfl rfl (fun h64 => ?_) (fun h64 => ?_)
     ·have ez : (0 - (n : Int)) = -(n : Int) := by omega
      have e0 := prog_ok (x := -(n : Int)) hn4 hcut hl hP (by rw [if_pos h64])
      refine en tOK 0 3 [] ?_
      refine fc tOK 1 [] (vnum_ok) ?_
      refine sn tOK 0 1 [] ?_
      refine kn2 tOK 7 [] (.bool true) (fun w => by kernel_rfl) ?_
      refine fg tOK 3 [] (fun hg => vprint_ok) ?_
      refine sib 0 rfl rfl (fun h81 => ?_) (fun h81 => ?_)
      ·simp at h81
       have e := e0
       rw [if_pos ⟨h81.1, h81.2⟩] at e
       refine en tOK 0 3 [] ?_
       refine sr 0 R ?_
       first | (rw [e]; rfl) | (rw [← Int.zero_sub] at e; rw [e]; rfl)
      ·simp at h81
       have e := e0
       rw [if_neg (fun h => h81 h.1 h.2)] at e
       refine en tOK 0 3 [] ?_
       refine sr 0 R ?_
       first | (rw [e]; rfl) | (rw [← Int.zero_sub] at e; rw [e]; rfl)
     ·have e0 := prog_ok (x := (n : Int)) hn4 hcut hl hP (by rw [if_neg (by simpa using h64)])
      refine en tOK 0 1 [] ?_
      refine kn2 tOK 7 [] (.bool true) (fun w => by kernel_rfl) ?_
      refine fg tOK 3 [] (fun hg => vprint_ok) ?_
      refine sib 0 rfl rfl (fun h81 => ?_) (fun h81 => ?_)
      ·simp at h81
       have e := e0
       rw [if_pos ⟨h81.1, h81.2⟩] at e
       refine en tOK 0 3 [] ?_
       refine sr 0 R ?_
       first | (rw [e]; rfl) | (rw [← Int.zero_sub] at e; rw [e]; rfl)
      ·simp at h81
       have e := e0
       rw [if_neg (fun h => h81 h.1 h.2)] at e
       refine en tOK 0 3 [] ?_
       refine sr 0 R ?_
       first | (rw [e]; rfl) | (rw [← Int.zero_sub] at e; rw [e]; rfl)
    ·refine en tOK 0 6 [] ?_
     refine sas 55 rfl (v' := nI ((3 - f.length : Nat) : Int)) ?_ ?_
     ·rw [show (3 : Int) - f.length = ((3 - f.length : Nat) : Int) by omega]
     refine fc tOK 1 [] (rep_ok (s := [48]) (c := 3 - f.length) (by show 1 * (3 - f.length) ≤ _; omega) (by omega) (by decide)) ?_ (hφ := by exact (show (w ++ f).length + (Lib.repeatL [48] (3 - f.length)).length ≤ 9223372036854775807 by rw [List.length_append, hrl]; omega))
     refine fc tOK 5 [] (uintG_bad hne h16 hP) ?_
     have e := prog_bad hn4 hcut hl hP
     refine sn tOK 0 2 [] ?_
     refine fc tOK 2 [] (vnum_ok) ?_
     refine sn tOK 0 1 [] ?_
     refine sib 0 rfl rfl (fun h64 => ?_) (fun h64 => ?_)
     ·refine en tOK 0 3 [] ?_
      refine fc tOK 1 [] (vnum_ok) ?_
      refine sn tOK 0 1 [] ?_
      refine nnil tOK 7 [] false (by kernel_rfl) ?_
      refine fg tOK 3 [] (fun hg => vprint_ok) ?_
      refine sib 0 rfl rfl (fun h81 => ?_) (fun h81 => ?_)
      ·simp at h81
      ·refine en tOK 0 3 [] ?_
       refine sr 0 R ?_
       first | (rw [e]; rfl) | (rw [← Int.zero_sub] at e; rw [e]; rfl)
     ·refine en tOK 0 1 [] ?_
      refine nnil tOK 7 [] false (by kernel_rfl) ?_
      refine fg tOK 3 [] (fun hg => vprint_ok) ?_
      refine sib 0 rfl rfl (fun h81 => ?_) (fun h81 => ?_)
      ·simp at h81
      ·refine en tOK 0 3 [] ?_
       refine sr 0 R ?_
       first | (rw [e]; rfl) | (rw [← Int.zero_sub] at e; rw [e]; rfl)
   ·have e := prog_long hn4 hcut (fun h => by simp at h48; omega)
    refine en tOK 0 3 [] ?_
    refine sr 0 R ?_
    first | (rw [e]; rfl) | (rw [← Int.zero_sub] at e; rw [e]; rfl)
end Go.Proofs.YtomkgfdigldhcaaGreatDoor
/- Walks: WN. -/
namespace Go.Proofs.YtomkgfdigldhcaaGreatDoor
open Go.KX
set_option maxRecDepth 100000 in
theorem number_ok {s r : Bytes} {p : Ps} (hi : p.i + r.length ≤ s.length) (hs : s.length ≤ 1024) : Fp Tryz.prog gT 298 [.l 1000 0, .str r] (psC s p) (exS (numberX parseV r p).1) (psC s (numberX parseV r p).2) := by
 refine fpb tOK (fn := Tryz.f298) 58 [.cell 4 29] Tryz.func298 Tryz.results298 (fun g0 B0 Q ρ0 R => ?_)
 have hb := runB_le gDig r
 have hnl := numLen_le r
 refine en tOK 0 1 [] ?_
 refine sn tOK 0 1 [] ?_
 refine fc tOK 1 [] (run_ok (g := gDig) (s := r) (by omega)) ?_
 refine sn tOK 0 11 [] ?_ (hφ := by exact ⟨id, id, fun h => ⟨by omega, by have := of_decide_eq_true h; omega⟩, id, id, by omega, by omega⟩)
 refine sib 0 rfl rfl (fun h21 => ?_) (fun h21 => ?_)
 ·simp only [Bool.and_eq_true, decide_eq_true_eq] at h21
  obtain ⟨q1, q2⟩ := h21
  have q3 : r.getD (runB gDig r) 0 = 46 := UInt8.toNat_inj.1 (Int.ofNat.inj q2)
  have hb2 := runB_le gDig (r.drop (runB gDig r + 1))
  have hb3 : (r.drop (runB gDig r + 1)).length = r.length - (runB gDig r + 1) := List.length_drop
  refine en tOK 0 4 [] ?_
  refine sas 25 rfl (v' := .str (r.drop (runB gDig r + 1))) ?_ ?_
  ·rw [show ((runB gDig r : Int) + 1).toNat = runB gDig r + 1 by omega]
  refine fc tOK 1 [] (run_ok (g := gDig) (s := r.drop (runB gDig r + 1)) (by omega)) ?_
  refine sn tOK 0 2 [] ?_
  refine si 0 rfl rfl (fun h28 => ?_) (fun h28 => ?_)
  ·have e : numLen r = runB gDig r + 1 + runB gDig (r.drop (runB gDig r + 1)) := by unfold numLen; rw [if_pos ⟨by omega, q3, by omega⟩]
   refine en tOK 0 5 [] ?_
   refine sas 5 rfl (v' := nI (numLen r)) ?_ ?_
   ·exact nI_eq (by omega)
   refine sn tOK 0 3 [] ?_
   refine fc tOK 6 [] (vparse_ok (s := r.take (numLen r)) (by simp; omega)) ?_
   refine sn tOK 0 2 [] ?_
   refine si 0 rfl rfl (fun h41 => ?_) (fun h41 => ?_)
   ·have hfi := fails_i p 110 p.i
    have e2 : numberX parseV r p = (exN (parseV (r.take (numLen r))).1, { p.fails 110 p.i with i := p.i + numLen r }) := by unfold numberX; rw [if_neg h41]
    refine en tOK 0 5 [] ?_
    refine fp tOK 1000 0 [] (fails_ok) ?_
    refine sn tOK 0 9 [] ?_
    refine sn tOK 0 3 [] ?_
    refine srp 0 R ?_
    exact ⟨by rw [e2] <;> rfl, by rw [e2] <;> first | rfl | (rw [hfi] <;> rfl)⟩
   ·have e2 : numberX parseV r p = (exN (parseV (r.take (numLen r))).1, { p with i := p.i + numLen r }) := by unfold numberX; rw [if_pos (Decidable.of_not_not h41)]
    refine en tOK 0 9 [] ?_
    refine sn tOK 0 3 [] ?_
    refine srp 0 R ?_
    exact ⟨by rw [e2] <;> rfl, by rw [e2] <;> first | rfl | (rw [hfi] <;> rfl)⟩
  ·have e : numLen r = runB gDig r := by unfold numLen; rw [if_neg (fun h => by omega)]
   refine eas 5 rfl (v' := nI (numLen r)) ?_ ?_
   ·exact nI_eq (by omega)
   refine en tOK 0 3 [] ?_
   refine fc tOK 6 [] (vparse_ok (s := r.take (numLen r)) (by simp; omega)) ?_
   refine sn tOK 0 2 [] ?_
   refine si 0 rfl rfl (fun h41 => ?_) (fun h41 => ?_)
   ·have hfi := fails_i p 110 p.i
    have e2 : numberX parseV r p = (exN (parseV (r.take (numLen r))).1, { p.fails 110 p.i with i := p.i + numLen r }) := by unfold numberX; rw [if_neg h41]
    refine en tOK 0 5 [] ?_
    refine fp tOK 1000 0 [] (fails_ok) ?_
    refine sn tOK 0 9 [] ?_
    refine sn tOK 0 3 [] ?_
    refine srp 0 R ?_
    exact ⟨by rw [e2] <;> rfl, by rw [e2] <;> first | rfl | (rw [hfi] <;> rfl)⟩
   ·have e2 : numberX parseV r p = (exN (parseV (r.take (numLen r))).1, { p with i := p.i + numLen r }) := by unfold numberX; rw [if_pos (Decidable.of_not_not h41)]
    refine en tOK 0 9 [] ?_
    refine sn tOK 0 3 [] ?_
    refine srp 0 R ?_
    exact ⟨by rw [e2] <;> rfl, by rw [e2] <;> first | rfl | (rw [hfi] <;> rfl)⟩
 ·have e : numLen r = runB gDig r := by
    unfold numLen
    rw [if_neg]
    intro h
    rcases Bool.and_eq_false_iff.1 h21 with q | q
    · have q := of_decide_eq_false q
      omega
    · exact of_decide_eq_false q (by show ((r.getD (runB gDig r) 0).toNat : Int) = 46; rw [h.2.1]; rfl)
  refine eas 5 rfl (v' := nI (numLen r)) ?_ ?_
  ·exact nI_eq (by omega)
  refine en tOK 0 3 [] ?_
  refine fc tOK 6 [] (vparse_ok (s := r.take (numLen r)) (by simp; omega)) ?_
  refine sn tOK 0 2 [] ?_
  refine si 0 rfl rfl (fun h41 => ?_) (fun h41 => ?_)
  ·have hfi := fails_i p 110 p.i
   have e2 : numberX parseV r p = (exN (parseV (r.take (numLen r))).1, { p.fails 110 p.i with i := p.i + numLen r }) := by unfold numberX; rw [if_neg h41]
   refine en tOK 0 5 [] ?_
   refine fp tOK 1000 0 [] (fails_ok) ?_
   refine sn tOK 0 9 [] ?_
   refine sn tOK 0 3 [] ?_
   refine srp 0 R ?_
   exact ⟨by rw [e2] <;> rfl, by rw [e2] <;> first | rfl | (rw [hfi] <;> rfl)⟩
  ·have e2 : numberX parseV r p = (exN (parseV (r.take (numLen r))).1, { p with i := p.i + numLen r }) := by unfold numberX; rw [if_pos (Decidable.of_not_not h41)]
   refine en tOK 0 9 [] ?_
   refine sn tOK 0 3 [] ?_
   refine srp 0 R ?_
   exact ⟨by rw [e2] <;> rfl, by rw [e2] <;> first | rfl | (rw [hfi] <;> rfl)⟩
set_option maxRecDepth 100000 in
theorem word_ok {s r : Bytes} {p : Ps} {ex : Ps → Ex × Ps} {dp : Nat} (hdp : dp ≤ 33) (fx : Fit s ex) (hex : ∀ p : Ps, p.i ≤ s.length → Fp Tryz.prog gT 62 [.l 1000 0, nI ((dp : Int) + 1)] (psC s p) (exS (ex p).1) (psC s (ex p).2)) (hi : p.i + r.length ≤ s.length) (hs : s.length ≤ 1024) : Fp Tryz.prog gT 299 [.l 1000 0, .str r, nI dp] (psC s p) (exS (wordX s ex r p).1) (psC s (wordX s ex r p).2) := by
 refine fpb tOK (fn := Tryz.f299) 57 [.cell 6 29] Tryz.func299 Tryz.results299 (fun g0 B0 Q ρ0 R => ?_)
 have hb := runB_le gLD r
 obtain ⟨w, hw⟩ : ∃ w, w = r.take (runB gLD r) := ⟨_, rfl⟩
 have hwl : w.length ≤ r.length := by rw [hw]; simp; omega
 obtain ⟨p1, hp1⟩ : ∃ p1 : Ps, p1 = { p with i := p.i + w.length } := ⟨_, rfl⟩
 have hp1i : p1.i = p.i + w.length := by rw [hp1]
 refine en tOK 0 1 [] ?_
 refine sn tOK 0 5 [] ?_
 refine sn tOK 0 2 [] ?_
 refine fc tOK 2 [] (run_ok (g := gLD) (s := r) (by omega)) ?_
 refine sas 1 rfl (v' := .str w) ?_ ?_
 ·rw [hw]; rfl
 refine sn tOK 0 10 [] ?_
 refine smb 1000 (mb' := psC s p1) ?_ ?_
 ·rw [hp1]; rfl
 refine sn tOK 0 1 [] ?_
 refine sn tOK 0 2 [] ?_
 refine si 0 rfl rfl (fun h27 => ?_) (fun h27 => ?_)
 ·have e2 : wordX s ex r p = (exN nullV, p1) := by unfold wordX; simp only; rw [← hw, if_pos h27, hp1]
  refine en tOK 0 0 [] ?_
  refine fc tOK 2 [] (vnull_ok) ?_
  refine srp 0 R ?_
  exact ⟨by rw [e2] <;> rfl, by rw [e2] <;> rfl⟩
 ·refine en tOK 0 2 [] ?_
  refine si 0 rfl rfl (fun h31 => ?_) (fun h31 => ?_)
  ·have e2 : wordX s ex r p = (exN nanV, p1) := by unfold wordX; simp only; rw [← hw, if_neg h27, if_pos h31, hp1]
   refine en tOK 0 0 [] ?_
   refine fc tOK 2 [] (vnan_ok) ?_
   refine srp 0 R ?_
   exact ⟨by rw [e2] <;> rfl, by rw [e2] <;> rfl⟩
  ·refine en tOK 0 2 [] ?_
   refine si 0 rfl rfl (fun h35 => ?_) (fun h35 => ?_)
   ·have e2 : wordX s ex r p = (exN plusV, p1) := by unfold wordX; simp only; rw [← hw, if_neg h27, if_neg h31, if_pos h35, hp1]
    refine en tOK 0 0 [] ?_
    refine fc tOK 2 [] (vplus_ok) ?_
    refine srp 0 R ?_
    exact ⟨by rw [e2] <;> rfl, by rw [e2] <;> rfl⟩
   ·obtain ⟨p2, hp2⟩ : ∃ p2, p2 = (if functionB w then p1 else p1.fails 110 p.i) := ⟨_, rfl⟩
    have e2 : wordX s ex r p = (exC w [(parX s ex (mustP s oPL p2)).1], (parX s ex (mustP s oPL p2)).2) := by unfold wordX; simp only; rw [← hw, if_neg h27, if_neg h31, if_neg h35, hp2, hp1]
    have hp2i : p2.i = p1.i := by rw [hp2]; split <;> simp [fails_i]
    have hm1 := must_fit (s := s) (x := oPL) (p := p2) (by omega)
    have hx1 := fx _ hm1.2
    refine en tOK 0 1 [] ?_
    refine fc tOK 1 [] (function_ok) ?_
    refine sib 0 rfl rfl (fun h41 => ?_) (fun h41 => ?_)
    ·refine en tOK 0 2 [] ?_
     refine fp tOK 1000 0 [] (fails_ok) ?_
     refine smb 1000 (mb' := psC s p2) ?_ ?_
     ·rw [hp2]; first | rw [if_pos (by simpa using h41)] | rw [if_neg (by simpa using h41)]
     refine sn tOK 0 1 [] ?_
     refine fp tOK 1000 0 [] (must_ok (x := oPL) (p := p2) (by omega) hs) ?_
     refine sn tOK 0 3 [] ?_
     refine fp tOK 1000 2 [] (hex (mustP s oPL p2) hm1.2) ?_
     refine sn tOK 0 1 [] ?_
     refine fp tOK 1000 0 [] (must_ok (x := oPR) (p := (ex (mustP s oPL p2)).2) hx1.2 hs) ?_
     refine sn tOK 0 3 [] ?_
     refine fc tOK 1 [] (call1_ok) ?_
     refine srp 0 R ?_
     exact ⟨by rw [e2] <;> rfl, by rw [e2] <;> rfl⟩
    ·refine emb 1000 (mb' := psC s p2) ?_ ?_
     ·rw [hp2]; first | rw [if_pos (by simpa using h41)] | rw [if_neg (by simpa using h41)]
     refine en tOK 0 1 [] ?_
     refine fp tOK 1000 0 [] (must_ok (x := oPL) (p := p2) (by omega) hs) ?_
     refine sn tOK 0 3 [] ?_
     refine fp tOK 1000 2 [] (hex (mustP s oPL p2) hm1.2) ?_
     refine sn tOK 0 1 [] ?_
     refine fp tOK 1000 0 [] (must_ok (x := oPR) (p := (ex (mustP s oPL p2)).2) hx1.2 hs) ?_
     refine sn tOK 0 3 [] ?_
     refine fc tOK 1 [] (call1_ok) ?_
     refine srp 0 R ?_
     exact ⟨by rw [e2] <;> rfl, by rw [e2] <;> rfl⟩
set_option maxRecDepth 100000 in
theorem prim0_ok {s : Bytes} {ex : Ps → Ex × Ps} {p : Ps} {dp : Nat} (hi : p.i ≤ s.length) (hs : s.length ≤ 1024) (hd : p.dead = true) : Fp Tryz.prog gT 256 [.l 1000 0, nI dp] (psC s p) (exS (primX parseV s ex p).1) (psC s (primX parseV s ex p).2) := by
 refine fpb tOK (fn := Tryz.f256) 95 [.cell 4 29] Tryz.func256 Tryz.results256 (fun g0 B0 Q ρ0 R => ?_)
 have e2 := prim_dead (pv := parseV) (s := s) (ex := ex) hd
 have hd2 : (p.restP s).dead = true := (restP_dead s p).trans hd
 refine en tOK 0 1 [] ?_
 refine sn tOK 0 1 [] ?_
 refine fp tOK 1000 1 [] (rest_ok hi hs) ?_
 refine sn tOK 0 5 [] ?_
 refine sib 0 rfl rfl (fun h15 => ?_) (fun h15 => ?_)
 ·refine en tOK 0 2 [] ?_
  refine srp 0 R ?_
  exact ⟨by rw [e2] <;> rfl, by rw [e2] <;> rfl⟩
 ·rw [hd2] at h15; cases h15
set_option maxRecDepth 100000 in
theorem prim_ok {s : Bytes} {p : Ps} {ex : Ps → Ex × Ps} {dp : Nat} (hdp : dp ≤ 33) (fx : Fit s ex) (hex : ∀ p : Ps, p.i ≤ s.length → Fp Tryz.prog gT 62 [.l 1000 0, nI ((dp : Int) + 1)] (psC s p) (exS (ex p).1) (psC s (ex p).2)) (hi : p.i ≤ s.length) (hs : s.length ≤ 1024) : Fp Tryz.prog gT 256 [.l 1000 0, nI dp] (psC s p) (exS (primX parseV s ex p).1) (psC s (primX parseV s ex p).2) := by
 refine fpb tOK (fn := Tryz.f256) 95 [.cell 4 29] Tryz.func256 Tryz.results256 (fun g0 B0 Q ρ0 R => ?_)
 have hlen := restT_len (s := s) hi
 have hdd := restP_dead s p
 refine en tOK 0 1 [] ?_
 refine sn tOK 0 1 [] ?_
 refine fp tOK 1000 1 [] (rest_ok hi hs) ?_
 refine sn tOK 0 5 [] ?_
 refine sib 0 rfl rfl (fun h15 => ?_) (fun h15 => ?_)
 ·have e2 := prim_dead (pv := parseV) (s := s) (ex := ex) (p := p) (hdd ▸ h15)
  refine en tOK 0 2 [] ?_
  refine srp 0 R ?_
  exact ⟨by rw [e2] <;> rfl, by rw [e2] <;> first | rfl | (rw [hp2i] <;> rfl)⟩
 ·have hd : p.dead = false := hdd ▸ h15
  refine en tOK 0 3 [] ?_
  refine si 0 rfl rfl (fun h20 => ?_) (fun h20 => ?_)
  ·have e2 := prim_nil (pv := parseV) (s := s) (ex := ex) hd h20
   refine en tOK 0 5 [] ?_
   refine fp tOK 1000 0 [] (fails_ok) ?_
   refine sn tOK 0 2 [] ?_
   refine srp 0 R ?_
   exact ⟨by rw [e2] <;> rfl, by rw [e2] <;> first | rfl | (rw [hp2i] <;> rfl)⟩
  ·obtain ⟨c, r, hcr⟩ : ∃ c r, p.restT s = c :: r := by
     cases hx : p.restT s with
     | nil => exact absurd hx h20
     | cons c r => exact ⟨c, r, rfl⟩
   have e0 := prim_cons (pv := parseV) (s := s) (ex := ex) hd hcr
   have hlr : (p.restP s).i + (c :: r).length ≤ s.length := by rw [hcr] at hlen; omega
   have hlr1 : (c :: r).length = r.length + 1 := rfl
   refine eas 5 rfl (v' := .str (c :: r)) ?_ ?_
   ·rw [hcr]
   refine en tOK 0 4 [] ?_
   refine si 0 rfl rfl (fun h29 => ?_) (fun h29 => ?_)
   ·have hc : c = 40 := u8_eq (k := 40) h29
    have e2 : primX parseV s ex p = parX s ex { p.restP s with i := (p.restP s).i + 1 } := by rw [e0, if_pos hc]
    have hx1 := fx { p.restP s with i := (p.restP s).i + 1 } (by show (p.restP s).i + 1 ≤ _; omega)
    refine en tOK 0 8 [] ?_
    refine smb 1000 (mb' := psC s { p.restP s with i := (p.restP s).i + 1 }) ?_ ?_
    ·rfl
    refine sn tOK 0 3 [] ?_
    refine fp tOK 1000 1 [] (hex { p.restP s with i := (p.restP s).i + 1 } (by show (p.restP s).i + 1 ≤ _; omega)) ?_
    refine sn tOK 0 1 [] ?_
    refine fp tOK 1000 0 [] (must_ok (x := oPR) (p := (ex { p.restP s with i := (p.restP s).i + 1 }).2) hx1.2 hs) ?_
    refine sn tOK 0 2 [] ?_
    refine srp 0 R ?_
    exact ⟨by rw [e2] <;> rfl, by rw [e2] <;> first | rfl | (rw [hp2i] <;> rfl)⟩
   ·have hc : c ≠ 40 := fun h => h29 (by rw [h]; rfl)
    refine en tOK 0 4 [] ?_
    refine si 0 rfl rfl (fun h46 => ?_) (fun h46 => ?_)
    ·have hc2 : c = 36 := u8_eq (k := 36) h46
     have hb := runB_le gLD r
     obtain ⟨w, hw⟩ : ∃ w, w = r.take (runB gLD r) := ⟨_, rfl⟩
     have hwl : w.length ≤ r.length := by rw [hw]; simp; omega
     obtain ⟨p2, hp2⟩ : ∃ p2, p2 = (if refB w then p.restP s else (p.restP s).fails 110 (p.restP s).i) := ⟨_, rfl⟩
     have hp2i : p2.i = (p.restP s).i := by rw [hp2]; split <;> simp [fails_i]
     have e2 : primX parseV s ex p = (exR w, { p2 with i := (p.restP s).i + (1 + w.length) }) := by rw [e0, if_neg hc, if_pos hc2, hp2, hw]; rfl
     refine en tOK 0 3 [] ?_
     refine fc tOK 3 [] (run_ok (g := gLD) (s := r) (by omega)) ?_
     refine sas 6 rfl (v' := .str w) ?_ ?_
     ·rw [hw]; show SV.str (r.take ((1 + (runB gLD r : Int)).toNat - 1)) = _; rw [show (1 + (runB gLD r : Int)).toNat - 1 = runB gLD r by omega]
     refine sn tOK 0 1 [] ?_
     refine fc tOK 1 [] (ref_ok (w := w) (by omega)) ?_
     refine sib 0 rfl rfl (fun h58 => ?_) (fun h58 => ?_)
     ·refine en tOK 0 5 [] ?_
      refine fp tOK 1000 0 [] (fails_ok) ?_
      refine smb 1000 (mb' := psC s p2) ?_ ?_
      ·rw [hp2]; first | rw [if_pos (by simpa using h58)] | rw [if_neg (by simpa using h58)]
      refine sn tOK 0 11 [] ?_ (hφ := by exact ⟨⟨by omega, by omega⟩, ⟨by omega, by omega⟩⟩)
      refine sn tOK 0 3 [] ?_
      refine sn tOK 0 2 [] ?_
      refine srp 0 R ?_
      exact ⟨by rw [e2] <;> rfl, by rw [e2] <;> first | rfl | (rw [hp2i] <;> rfl)⟩
     ·refine emb 1000 (mb' := psC s p2) ?_ ?_
      ·rw [hp2]; first | rw [if_pos (by simpa using h58)] | rw [if_neg (by simpa using h58)]
      refine en tOK 0 11 [] ?_ (hφ := by exact ⟨⟨by omega, by omega⟩, ⟨by omega, by omega⟩⟩)
      refine sn tOK 0 3 [] ?_
      refine sn tOK 0 2 [] ?_
      refine srp 0 R ?_
      exact ⟨by rw [e2] <;> rfl, by rw [e2] <;> first | rfl | (rw [hp2i] <;> rfl)⟩
    ·have hc2 : c ≠ 36 := fun h => h46 (by rw [h]; rfl)
     refine en tOK 0 2 [] ?_
     refine fc tOK 2 [] (ib_ok (g := gDig) (c := c) rfl) ?_
     refine si 0 rfl rfl (fun h77 => ?_) (fun h77 => ?_)
     ·have hg : c ∈ gDig := Classical.byContradiction fun h => absurd ((ib_mem _ _).2 h) (by omega)
      have e2 : primX parseV s ex p = numberX parseV (c :: r) (p.restP s) := by rw [e0, if_neg hc, if_neg hc2, if_pos hg]
      refine en tOK 0 2 [] ?_
      refine fp tOK 1000 1 [] (number_ok (r := c :: r) hlr hs) ?_
      refine sn tOK 0 2 [] ?_
      refine srp 0 R ?_
      exact ⟨by rw [e2] <;> rfl, by rw [e2] <;> first | rfl | (rw [hp2i] <;> rfl)⟩
     ·have hg : c ∉ gDig := (ib_mem _ _).1 (by omega)
      refine en tOK 0 2 [] ?_
      refine fc tOK 2 [] (ib_ok (g := gLet) (c := c) rfl) ?_
      refine si 0 rfl rfl (fun h85 => ?_) (fun h85 => ?_)
      ·have hg2 : c ∈ gLet := Classical.byContradiction fun h => absurd ((ib_mem _ _).2 h) (by omega)
       have e2 : primX parseV s ex p = wordX s ex (c :: r) (p.restP s) := by rw [e0, if_neg hc, if_neg hc2, if_neg hg, if_pos hg2]
       refine en tOK 0 3 [] ?_
       refine fp tOK 1000 1 [] (word_ok (r := c :: r) hdp fx hex hlr hs) ?_
       refine sn tOK 0 2 [] ?_
       refine srp 0 R ?_
       exact ⟨by rw [e2] <;> rfl, by rw [e2] <;> first | rfl | (rw [hp2i] <;> rfl)⟩
      ·have hg2 : c ∉ gLet := (ib_mem _ _).1 (by omega)
       have e2 : primX parseV s ex p = (ex0, (p.restP s).fails 110 (p.restP s).i) := by rw [e0, if_neg hc, if_neg hc2, if_neg hg, if_neg hg2]
       refine en tOK 0 5 [] ?_
       refine fp tOK 1000 0 [] (fails_ok) ?_
       refine sn tOK 0 2 [] ?_
       refine srp 0 R ?_
       exact ⟨by rw [e2] <;> rfl, by rw [e2] <;> first | rfl | (rw [hp2i] <;> rfl)⟩
end Go.Proofs.YtomkgfdigldhcaaGreatDoor
/- Walks: WO. -/
namespace Go.Proofs.YtomkgfdigldhcaaGreatDoor
open Go.KX
set_option maxRecDepth 100000 in
theorem binary0_ok {s : Bytes} {u : Ps → Ex × Ps} {p : Ps} {q : Int} {dp : Nat} (hq : q = 5) (hu : Fp Tryz.prog gT 167 [.l 1000 0, nI dp] (psC s p) (exS (u p).1) (psC s (u p).2)) : Fp Tryz.prog gT 115 [.l 1000 0, nI q, nI dp] (psC s p) (exS (u p).1) (psC s (u p).2) := by
 refine fpb tOK (fn := Tryz.f115) 43 [.cell 6 29] Tryz.func115 Tryz.results115 (fun g0 B0 Q ρ0 R => ?_)
 refine en tOK 0 1 [] ?_
 refine sn tOK 0 2 [] ?_
 refine si 0 rfl rfl (fun h11 => ?_) (fun h11 => ?_)
 ·refine en tOK 0 2 [] ?_
  refine fp tOK 1000 1 [] (hu) ?_
  refine srp 0 R ?_
  exact ⟨rfl, rfl⟩
 ·exact absurd hq h11
set_option maxRecDepth 100000 in
theorem binaryS_ok {s : Bytes} {sub : Ps → Ex × Ps} {p : Ps} {q : Int} {dp n : Nat} (hq : q = 4 - (n : Int)) (hn : n ≤ 4) (fs : Fit s sub) (hsub : ∀ p : Ps, p.i ≤ s.length → Fp Tryz.prog gT 115 [.l 1000 0, nI (q + 1), nI dp] (psC s p) (exS (sub p).1) (psC s (sub p).2)) (hi : p.i ≤ s.length) (hs : s.length ≤ 1024) : Fp Tryz.prog gT 115 [.l 1000 0, nI q, nI dp] (psC s p) (exS (loopG (tkX s) sub (levelsT.getD (4 - n) []) (n == 2) (s.length + 1) (sub p).1 (sub p).2).1) (psC s (loopG (tkX s) sub (levelsT.getD (4 - n) []) (n == 2) (s.length + 1) (sub p).1 (sub p).2).2) := by
 refine fpb tOK (fn := Tryz.f115) 43 [.cell 6 29] Tryz.func115 Tryz.results115 (fun g0 B0 Q ρ0 R => ?_)
 refine en tOK 0 1 [] ?_
 refine sn tOK 0 2 [] ?_
 refine si 0 rfl rfl (fun h11 => ?_) (fun h11 => ?_)
 ·exact absurd h11 (by omega)
 ·refine en tOK 0 4 [] ?_
  refine fp tOK 1000 2 [] (hsub p hi) ?_
  refine sl 0 ?_
  obtain ⟨ops, hops⟩ : ∃ ops, ops = levelsT.getD (4 - n) [] := ⟨_, rfl⟩
  obtain ⟨rest, hrest⟩ := levels_row hn hq
  rw [← hops] at hrest
  refine E_loop (σ := Nat × Ex × Ps) (fun t => t.2.2.i ≤ s.length ∧ s.length < t.1 + t.2.2.i ∧ loopG (tkX s) sub ops (n == 2) t.1 t.2.1 t.2.2 = loopG (tkX s) sub ops (n == 2) (s.length + 1) (sub p).1 (sub p).2) (fun t => t.1)
    (fun t => [(0, .l 1000 0), (1, nI q), (2, nI dp), (6, .l 6 0), (7, .l 7 0)])
    (fun t => [(7, .c 29 (exL t.2.1)), (6, .c 29 [nI 0, .str [], nI 0, nI 0, .s 0 []]), (1000, psC s t.2.2)]) (s.length + 1, (sub p).1, (sub p).2) ?_ ?_
  ·exact ⟨(fs p hi).2, by simp only; omega, rfl⟩
  ·rintro J t ⟨ht1, ht2, ht3⟩ hJ
   obtain ⟨k, hk⟩ : ∃ k, t.1 = k + 1 := ⟨t.1 - 1, by omega⟩
   have htf := take_fit (l := ops) ht1
   have hsf := fs _ htf.2
   rw [hk] at ht3
   refine en tOK 0 2 [] ?_
   refine gix tOK 1 [] (n := 5) (z := q) (rB ops :: rest) levels_den (by omega) hrest ?_
   refine fp tOK 1000 5 [] (take_ok (l := ops) ht1 hs) ?_
   refine sn tOK 0 2 [] ?_
   refine sib 0 rfl rfl (fun h29 => ?_) (fun h29 => ?_)
   ·have e1 : takeT s ops t.2.2 = none := by simpa using h29
    have e2 : loopG (tkX s) sub (levelsT.getD (4 - n) []) (n == 2) (s.length + 1) (sub p).1 (sub p).2 = (t.2.1, takeP s ops t.2.2) := by rw [← hops, ← ht3, loop_none e1]
    refine en tOK 0 2 [] ?_
    refine srp 0 R ?_
    exact ⟨by rw [e2] <;> rfl, by rw [e2] <;> rfl⟩
   ·obtain ⟨o, e1⟩ : ∃ o, takeT s ops t.2.2 = some o := Option.isSome_iff_exists.1 (by simpa using h29)
    refine eas 8 rfl (v' := .str o) ?_ ?_
    ·rw [e1]; rfl
    refine edr 0 576 [0, 0, 0, 0, 8, 0, 60, 126, 255, 511] [0, 2, 3, 4, 5, 6, 1, 7, 8, 9] ?_
    refine xd tOK 5 [] ?_
    refine dpc tOK 1000 0 [] (hsub (takeP s ops t.2.2) htf.2) ?_
    refine dl tOK 1 [] ?_
    refine dc tOK 1 [] (call2_ok) ?_
    refine xe ?_
    refine sn tOK 0 2 [] ?_
    refine si 0 rfl rfl (fun h41 => ?_) (fun h41 => ?_)
    ·have hb : (n == 2) = true := by simp; omega
     have e2 : loopG (tkX s) sub (levelsT.getD (4 - n) []) (n == 2) (s.length + 1) (sub p).1 (sub p).2 = (exC o [t.2.1, (sub (takeP s ops t.2.2)).1], (sub (takeP s ops t.2.2)).2) := by rw [← hops, ← ht3, hb, loop_alone e1]
     refine en tOK 0 2 [] ?_
     refine srp 0 R ?_
     exact ⟨by rw [e2] <;> rfl, by rw [e2] <;> rfl⟩
    ·have hb : (n == 2) = false := by simp; omega
     refine el 0 ?_
     exact hJ (k, exC o [t.2.1, (sub (takeP s ops t.2.2)).1], (sub (takeP s ops t.2.2)).2) ⟨hsf.2, by simp only; have := take_more e1; omega, by rw [← ht3, hb, loop_more e1]⟩ (by simp only; omega)
theorem binary_ok {s : Bytes} {u : Ps → Ex × Ps} {dp : Nat} (hs : s.length ≤ 1024) (fu : Fit s u) (hu : (∀ p : Ps, p.i ≤ s.length → Fp Tryz.prog gT 167 [.l 1000 0, nI dp] (psC s p) (exS (u p).1) (psC s (u p).2))) : ∀ (n : Nat), n ≤ 5 → ∀ (q : Int), q = 5 - (n : Int) → ∀ p : Ps, p.i ≤ s.length → Fp Tryz.prog gT 115 [.l 1000 0, nI q, nI dp] (psC s p) (exS (levX s u n p).1) (psC s (levX s u n p).2)
  | 0, _, q, hq, p, hi => binary0_ok (by omega) (hu p hi)
  | n + 1, hn, q, hq, p, hi => binaryS_ok (n := n) (by omega) (by omega) (lev_fit fu n) (fun p hi => binary_ok hs fu hu n (by omega) (q + 1) (by omega) p hi) hi hs
set_option maxRecDepth 100000 in
theorem expr_ok {s : Bytes} {u : Ps → Ex × Ps} {p : Ps} {dp : Nat} (fu : Fit s u) (hu : (∀ p : Ps, p.i ≤ s.length → Fp Tryz.prog gT 167 [.l 1000 0, nI dp] (psC s p) (exS (u p).1) (psC s (u p).2))) (hi : p.i ≤ s.length) (hs : s.length ≤ 1024) : Fp Tryz.prog gT 62 [.l 1000 0, nI dp] (psC s p) (exS (exprX s u dp p).1) (psC s (exprX s u dp p).2) := by
 refine fpb tOK (fn := Tryz.f62) 11 [.cell 4 29] Tryz.func62 Tryz.results62 (fun g0 B0 Q ρ0 R => ?_)
 refine en tOK 0 1 [] ?_
 refine sn tOK 0 2 [] ?_
 refine fp tOK 1000 0 [] (enter_ok (by omega) (by omega)) ?_
 refine sn tOK 0 2 [] ?_
 refine fp tOK 1000 1 [] (binary_ok hs fu hu 5 (by omega) 0 rfl (enterP s dp p) (enter_fit hi).2) ?_
 refine srp 0 R ?_
 exact ⟨rfl, rfl⟩
set_option maxRecDepth 100000 in
theorem unary0_ok {s : Bytes} {p : Ps} (hi : p.i ≤ s.length) (hs : s.length ≤ 1024) : Fp Tryz.prog gT 167 [.l 1000 0, nI ((33 : Nat) : Int)] (psC s p) (exS (unX parseV s 0 p).1) (psC s (unX parseV s 0 p).2) := by
 refine fpb tOK (fn := Tryz.f167) 27 [.cell 4 29] Tryz.func167 Tryz.results167 (fun g0 B0 Q ρ0 R => ?_)
 have hd := enter33 (s := s) (p := p)
 have he := enter_fit (d := 33) hi
 have e1 : takeT s [oSub, oNot] (enterP s 33 p) = none := takeT_dead hd
 have hf := take_fit (l := [oSub, oNot]) he.2
 refine en tOK 0 1 [] ?_
 refine sn tOK 0 2 [] ?_
 refine fp tOK 1000 0 [] (enter_ok (by omega) (by omega)) ?_
 refine sn tOK 0 2 [] ?_
 refine fp tOK 1000 5 [] (take_ok (l := [oSub, oNot]) he.2 hs) ?_
 refine sn tOK 0 1 [] ?_
 refine sib 0 rfl rfl (fun h16 => ?_) (fun h16 => ?_)
 ·rw [e1] at h16; cases h16
 ·refine en tOK 0 2 [] ?_
  refine fp tOK 1000 1 [] (prim0_ok (ex := fun q => (ex0, q)) (dp := 33) hf.2 hs ((gone_take _ _ hd).1)) ?_
  refine srp 0 R ?_
  exact ⟨rfl, rfl⟩
set_option maxRecDepth 100000 in
theorem unaryS_ok {s : Bytes} {p : Ps} {d dp : Nat} (hdp : dp + d = 32) (hun : ∀ p : Ps, p.i ≤ s.length → Fp Tryz.prog gT 167 [.l 1000 0, nI ((dp : Int) + 1)] (psC s p) (exS (unX parseV s d p).1) (psC s (unX parseV s d p).2)) (hi : p.i ≤ s.length) (hs : s.length ≤ 1024) : Fp Tryz.prog gT 167 [.l 1000 0, nI dp] (psC s p) (exS (unX parseV s (d + 1) p).1) (psC s (unX parseV s (d + 1) p).2) := by
 refine fpb tOK (fn := Tryz.f167) 27 [.cell 4 29] Tryz.func167 Tryz.results167 (fun g0 B0 Q ρ0 R => ?_)
 have h32 : 32 - d = dp := by omega
 have h33 : 33 - d = dp + 1 := by omega
 have he := enter_fit (d := dp) hi
 have hf := take_fit (l := [oSub, oNot]) he.2
 have hfx := un_fit (pv := parseV) (s := s) d
 refine en tOK 0 1 [] ?_
 refine sn tOK 0 2 [] ?_
 refine fp tOK 1000 0 [] (enter_ok (by omega) (by omega)) ?_
 refine sn tOK 0 2 [] ?_
 refine fp tOK 1000 5 [] (take_ok (l := [oSub, oNot]) he.2 hs) ?_
 refine sn tOK 0 1 [] ?_
 refine sib 0 rfl rfl (fun h16 => ?_) (fun h16 => ?_)
 ·obtain ⟨o, e1⟩ : ∃ o, takeT s [oSub, oNot] (enterP s dp p) = some o := Option.isSome_iff_exists.1 h16
  have e2 := un_some (pv := parseV) (s := s) (p := p) (d := d) (o := o) (by rw [h32]; exact e1)
  rw [h32] at e2
  refine eas 5 rfl (v' := .str o) ?_ ?_
  ·rw [e1]; rfl
  refine en tOK 0 4 [] ?_
  refine fp tOK 1000 1 [] (hun (takeP s [oSub, oNot] (enterP s dp p)) hf.2) ?_
  refine fc tOK 1 [] (call1_ok) ?_
  refine srp 0 R ?_
  exact ⟨by rw [e2] <;> rfl, by rw [e2] <;> rfl⟩
 ·have e1 : takeT s [oSub, oNot] (enterP s dp p) = none := by simpa using h16
  have e2 := un_none (pv := parseV) (s := s) (p := p) (d := d) (by rw [h32]; exact e1)
  rw [h32, h33] at e2
  refine en tOK 0 2 [] ?_
  refine fp tOK 1000 1 [] (prim_ok (ex := exprX s (unX parseV s d) (dp + 1)) (dp := dp) (by omega) (expr_fit hfx (dp + 1)) (fun p hi => expr_ok (dp := dp + 1) hfx hun hi hs) hf.2 hs) ?_
  refine srp 0 R ?_
  exact ⟨by rw [e2] <;> rfl, by rw [e2] <;> rfl⟩
theorem unary_ok {s : Bytes} (hs : s.length ≤ 1024) : ∀ (d dp : Nat), dp + d = 33 → ∀ p : Ps, p.i ≤ s.length → Fp Tryz.prog gT 167 [.l 1000 0, nI dp] (psC s p) (exS (unX parseV s d p).1) (psC s (unX parseV s d p).2)
  | 0, dp, h, p, hi => by
    have : dp = 33 := by omega
    subst this
    exact unary0_ok hi hs
  | d + 1, dp, h, p, hi => unaryS_ok (by omega) (fun p hi => unary_ok hs d (dp + 1) (by omega) p hi) hi hs
set_option maxRecDepth 100000 in
theorem mparse_ok {s : Bytes} : Fc Tryz.prog gT 20 [.str s] (.t [exS (parseX parseV s).1, nI (parseX parseV s).2.1, nI (parseX parseV s).2.2]) := by
 refine fb tOK (fn := Tryz.f20) 39 [.cell 2 29, .tmp 3, .tmp 4] Tryz.func20 Tryz.results20 (fun g0 B0 Q ρ0 R => ?_)
 refine en tOK 0 3 [] ?_
 refine sn tOK 0 3 [] ?_
 refine si 0 rfl rfl (fun h9 => ?_) (fun h9 => ?_)
 ·have e : parseX parseV s = (ex0, 1, 0) := by unfold parseX; rw [if_pos (by omega)]
  refine en tOK 0 4 [] ?_
  refine sr 0 R ?_
  rw [e]; rfl
 ·have hs : s.length ≤ 1024 := by omega
  obtain ⟨A, hA⟩ : ∃ A, A = exprX s (unX parseV s 33) 0 ⟨0, 0, 0, false⟩ := ⟨_, rfl⟩
  have hfA : A.2.i ≤ s.length := by rw [hA]; exact (expr_fit (un_fit 33) 0 _ (Nat.zero_le _)).2
  have e0 : parseX parseV s = (if (if A.2.restT s = [] then A.2.restP s else (A.2.restP s).fails 110 (A.2.restP s).i).dead then (ex0, (if A.2.restT s = [] then A.2.restP s else (A.2.restP s).fails 110 (A.2.restP s).i).err, (if A.2.restT s = [] then A.2.restP s else (A.2.restP s).fails 110 (A.2.restP s).i).at_) else (A.1, 0, 0)) := by unfold parseX; rw [if_neg (by omega), ← hA]
  have hE : Fp Tryz.prog gT 62 [.l 1000 0, nI ((0 : Nat) : Int)] (psC s ⟨0, 0, 0, false⟩) (exS A.1) (psC s A.2) := by rw [hA]; exact expr_ok (un_fit 33) (unary_ok hs 33 0 rfl) (Nat.zero_le _) hs
  refine en tOK 0 4 [] ?_
  refine smb 13 (mb' := psC s ⟨0, 0, 0, false⟩) ?_ ?_
  ·rfl
  refine sn tOK 0 1 [] ?_
  refine fp tOK 13 2 [] (hE) ?_
  refine sn tOK 0 1 [] ?_
  refine fp tOK 13 1 [] (rest_ok hfA hs) ?_
  refine si 0 rfl rfl (fun h18 => ?_) (fun h18 => ?_)
  ·obtain ⟨q2, hq2⟩ : ∃ q2, q2 = (A.2.restP s).fails 110 (A.2.restP s).i := ⟨_, rfl⟩
   have e3 : (if A.2.restT s = [] then A.2.restP s else (A.2.restP s).fails 110 (A.2.restP s).i) = q2 := by rw [hq2, if_neg h18]
   rw [e3] at e0
   refine en tOK 0 5 [] ?_
   refine fp tOK 13 0 [] (fails_ok) ?_
   refine smb 13 (mb' := psC s q2) ?_ ?_
   ·rw [hq2]
   refine sn tOK 0 4 [] ?_
   refine sib 0 rfl rfl (fun h28 => ?_) (fun h28 => ?_)
   ·have e : parseX parseV s = (ex0, q2.err, q2.at_) := by rw [e0, if_pos h28]
    refine edr 0 512 [0, 0, 2, 6, 14, 0, 32, 96, 224, 1, 543, 2047] [0, 1, 2, 3, 5, 6, 7, 9, 4, 8, 10, 11] ?_
    refine xd tOK 8 [] ?_
    refine dl tOK 0 [] ?_
    refine dl tOK 2 [] ?_
    refine xe ?_
    refine sr 0 R ?_
    rw [e]; rfl
   ·have e : parseX parseV s = (A.1, 0, 0) := by rw [e0, if_neg (by simp [h28])]
    refine en tOK 0 4 [] ?_
    refine sr 0 R ?_
    rw [e]; rfl
  ·obtain ⟨q2, hq2⟩ : ∃ q2, q2 = A.2.restP s := ⟨_, rfl⟩
   have e3 : (if A.2.restT s = [] then A.2.restP s else (A.2.restP s).fails 110 (A.2.restP s).i) = q2 := by rw [hq2, if_pos (Decidable.of_not_not h18)]
   rw [e3] at e0
   refine emb 13 (mb' := psC s q2) ?_ ?_
   ·rw [hq2]
   refine en tOK 0 4 [] ?_
   refine sib 0 rfl rfl (fun h28 => ?_) (fun h28 => ?_)
   ·have e : parseX parseV s = (ex0, q2.err, q2.at_) := by rw [e0, if_pos h28]
    refine edr 0 512 [0, 0, 2, 6, 14, 0, 32, 96, 224, 1, 543, 2047] [0, 1, 2, 3, 5, 6, 7, 9, 4, 8, 10, 11] ?_
    refine xd tOK 8 [] ?_
    refine dl tOK 0 [] ?_
    refine dl tOK 2 [] ?_
    refine xe ?_
    refine sr 0 R ?_
    rw [e]; rfl
   ·have e : parseX parseV s = (A.1, 0, 0) := by rw [e0, if_neg (by simp [h28])]
    refine en tOK 0 4 [] ?_
    refine sr 0 R ?_
    rw [e]; rfl
end Go.Proofs.YtomkgfdigldhcaaGreatDoor
/- Walks: WP. -/
namespace Go.Proofs.YtomkgfdigldhcaaGreatDoor
open Go.KX
set_option maxRecDepth 100000 in
theorem mrefs1_ok {x : Ex} (ih : ∀ y : Ex, exSize y < exSize x → Fc Tryz.prog gT 24 [exS y] (rB (refsX y))) (hz : exSize x ≤ 100000) : Fc Tryz.prog gT 24 [exS x] (rB (refsX x)) := by
 refine fb tOK (fn := Tryz.f24) 27 [.tmp 2] Tryz.func24 Tryz.results24 (fun g0 B0 Q ρ0 R => ?_)
 have e0 := refsX_eq x
 have hsz := exSize_eq x
 have hkl := kids_len x.kids
 refine en tOK 0 2 [] ?_
 refine sn tOK 0 3 [] ?_
 refine si 0 rfl rfl (fun h7 => ?_) (fun h7 => ?_)
 ·have e : refsX x = [x.name] := by rw [e0, if_pos h7]
  refine en tOK 0 4 [] ?_
  refine sr 0 R ?_
  rw [e]; rfl
 ·have e : refsX x = cmpB (sortL (refsL x.kids)) := by rw [e0, if_neg h7]
  refine en tOK 0 4 [] ?_
  refine sl 0 ?_
  refine eas 13 rfl (v' := nI x.kids.length) ?_ ?_
  ·rw [rowsE_len]
  refine eonl 2 902 9 1 ?_
  refine E_loop (σ := Nat) (fun j => j ≤ x.kids.length) (fun j => x.kids.length - j)
    (fun j => [(1, .l 1 0), (2, .o 902 (rowsB (refsL (x.kids.take j))).length), (12, .s (kz x.kids 5) (rowsE x.kids)), (13, nI x.kids.length), (14, nI j)])
    (fun j => [(902, .r 9 1 (rowsB (refsL (x.kids.take j)))), (1, .c 29 (exL x))]) 0 ?_ ?_
  ·exact Nat.zero_le _
  ·rintro J j hj0 hJ
   refine en tOK 0 1 [] ?_
   refine si 0 rfl rfl (fun h15 => ?_) (fun h15 => ?_)
   ·have hj : j < x.kids.length := by omega
    have hks := exSize_kid hj
    have hl1 := refs_lens (x.kids.take j)
    have hl2 := exSizes_take (l := x.kids) j
    have hl3 := refs_len x.kids[j]
    refine en tOK 0 4 [exL x.kids[j]] ?_ (hφ := by exact ⟨by omega, by simpa using rowsE_get hj⟩)
    refine sn tOK 0 2 [] ?_
    refine fc tOK 0 [] (ih x.kids[j] (by omega)) ?_
    refine sap tOK 1 [] rfl (fun _ => rfl) ?_ ?_
    ·show ((rowsB (refsL (x.kids.take j))).length + (rowsB (refsX x.kids[j])).length) * 16 ≤ _
     simp only [List.length_map]
     omega
    refine sn tOK 0 2 [] ?_
    refine sas 2 rfl (v' := .o 902 (rowsB (refsL (x.kids.take (j + 1)))).length) ?_ ?_
    ·rw [refsL_next hj]; simp
    refine smb 902 (mb' := .r 9 1 (rowsB (refsL (x.kids.take (j + 1))))) ?_ ?_
    ·rw [refsL_next hj]; simp
    exact hJ (j + 1) (by omega) (by omega)
   ·have ej : x.kids.take j = x.kids := List.take_of_length_le (by omega)
    rw [ej]
    have hl1 := refs_lens x.kids
    refine eas 2 rfl (v' := .o 902 (refsL x.kids).length) ?_ ?_
    ·simp
    refine en tOK 0 1 [] ?_
    refine fp tOK 902 0 [] (sortB_ok (l := refsL x.kids) (by omega)) ?_
    refine sas 2 rfl (v' := .o 902 (sortL (refsL x.kids)).length) ?_ ?_
    ·rw [sortL_len]
    refine sn tOK 0 1 [] ?_
    refine fp tOK 902 1 [] (compactB_ok (l := sortL (refsL x.kids)) (by rw [sortL_len]; omega)) ?_
    refine sezo 2 ?_ ?_ (hr := rowsB_len)
    ·simp
    refine sr 0 R ?_
    rw [e]; rfl
theorem mrefs_ok {x : Ex} (hz : exSize x ≤ 100000) : Fc Tryz.prog gT 24 [exS x] (rB (refsX x)) := by
  have key : ∀ (n : Nat) (x : Ex), exSize x ≤ n → n ≤ 100000 → Fc Tryz.prog gT 24 [exS x] (rB (refsX x)) := by
    intro n
    induction n with
    | zero => intro x h _; have := exSize_eq x; omega
    | succ n ih => intro x h hn; exact mrefs1_ok (fun y hy => ih y (by omega) (by omega)) (by omega)
  exact key _ x (Nat.le_refl _) hz
end Go.Proofs.YtomkgfdigldhcaaGreatDoor
