/- Of the types: the zero value, cells, bytes; of the functions: that they have a body. -/
import Derived.Test.YtfppaagdnpoemaaDoorProg
import Derived.Test.YtfppaagdnpoemaaDoorPLT
import Derived.KernelRfl
namespace Go.Proofs
open Go.PL
theorem Tryd.ti3 : TyI Tryd.prog 3 (.int .i64 0) 1 8 := by unfold TyI; kernel_rfl
theorem Tryd.ti5 : TyI Tryd.prog 5 (.int .u8 0) 1 1 := by unfold TyI; kernel_rfl
theorem Tryd.ti22 : TyI Tryd.prog 22 (.slice none 0 0) 1 24 := by unfold TyI; kernel_rfl
theorem Tryd.ti23 : TyI Tryd.prog 23 (.slice none 0 0) 1 24 := by unfold TyI; kernel_rfl
theorem Tryd.ti25 : TyI Tryd.prog 25 (.agg #[.int .u8 0, .int .u8 0, .int .u8 0, .int .u8 0, .int .u8 0, .int .u8 0, .int .u8 0, .int .u8 0, .int .u8 0, .int .u8 0, .int .u8 0, .int .u8 0, .int .u8 0, .int .u8 0, .int .u8 0, .int .u8 0]) 16 16 := by unfold TyI; kernel_rfl
theorem Tryd.ti34 : TyI Tryd.prog 34 (.slice none 0 0) 1 24 := by unfold TyI; kernel_rfl
theorem Tryd.ti51 : TyI Tryd.prog 51 (.agg (List.replicate 32 (.int .u8 0)).toArray) 32 32 := by unfold TyI; kernel_rfl
theorem Tryd.ti54 : TyI Tryd.prog 54 (.slice none 0 0) 1 24 := by unfold TyI; kernel_rfl
theorem Tryd.ti55 : TyI Tryd.prog 55 (.int .u32 0) 1 4 := by unfold TyI; kernel_rfl
theorem Tryd.ti56 : TyI Tryd.prog 56 (.agg #[.int .u32 0, .int .u32 0, .int .u32 0, .int .u32 0, .int .u32 0, .int .u32 0, .int .u32 0, .int .u32 0]) 8 32 := by unfold TyI; kernel_rfl
theorem Tryd.ti57 : TyI Tryd.prog 57 (.agg #[.int .u32 0, .int .u32 0, .int .u32 0, .int .u32 0, .int .u32 0, .int .u32 0, .int .u32 0, .int .u32 0]) 8 32 := by unfold TyI; kernel_rfl
theorem Tryd.ti63 : TyI Tryd.prog 63 (.agg (List.replicate 64 (.int .u32 0)).toArray) 64 256 := by unfold TyI; kernel_rfl
theorem Tryd.ti67 : TyI Tryd.prog 67 (.nilFunc) 1 8 := by unfold TyI; kernel_rfl
theorem Tryd.ti69 : TyI Tryd.prog 69 (.agg (List.replicate 64 (.int .u8 0)).toArray) 64 64 := by unfold TyI; kernel_rfl
theorem Tryd.hb3 : HasBody Tryd.prog 3 := ⟨Tryd.f3, Tryd.func3, by kernel_rfl, by kernel_rfl⟩
theorem Tryd.hb4 : HasBody Tryd.prog 4 := ⟨Tryd.f4, Tryd.func4, by kernel_rfl, by kernel_rfl⟩
theorem Tryd.hb5 : HasBody Tryd.prog 5 := ⟨Tryd.f5, Tryd.func5, by kernel_rfl, by kernel_rfl⟩
theorem Tryd.hb6 : HasBody Tryd.prog 6 := ⟨Tryd.f6, Tryd.func6, by kernel_rfl, by kernel_rfl⟩
theorem Tryd.hb7 : HasBody Tryd.prog 7 := ⟨Tryd.f7, Tryd.func7, by kernel_rfl, by kernel_rfl⟩
theorem Tryd.hb8 : HasBody Tryd.prog 8 := ⟨Tryd.f8, Tryd.func8, by kernel_rfl, by kernel_rfl⟩
theorem Tryd.hb9 : HasBody Tryd.prog 9 := ⟨Tryd.f9, Tryd.func9, by kernel_rfl, by kernel_rfl⟩
theorem Tryd.hb10 : HasBody Tryd.prog 10 := ⟨Tryd.f10, Tryd.func10, by kernel_rfl, by kernel_rfl⟩
theorem Tryd.hb11 : HasBody Tryd.prog 11 := ⟨Tryd.f11, Tryd.func11, by kernel_rfl, by kernel_rfl⟩
theorem Tryd.hb12 : HasBody Tryd.prog 12 := ⟨Tryd.f12, Tryd.func12, by kernel_rfl, by kernel_rfl⟩
theorem Tryd.hb13 : HasBody Tryd.prog 13 := ⟨Tryd.f13, Tryd.func13, by kernel_rfl, by kernel_rfl⟩
theorem Tryd.hb14 : HasBody Tryd.prog 14 := ⟨Tryd.f14, Tryd.func14, by kernel_rfl, by kernel_rfl⟩
theorem Tryd.hb15 : HasBody Tryd.prog 15 := ⟨Tryd.f15, Tryd.func15, by kernel_rfl, by kernel_rfl⟩
theorem Tryd.hb16 : HasBody Tryd.prog 16 := ⟨Tryd.f16, Tryd.func16, by kernel_rfl, by kernel_rfl⟩
theorem Tryd.hb17 : HasBody Tryd.prog 17 := ⟨Tryd.f17, Tryd.func17, by kernel_rfl, by kernel_rfl⟩
theorem Tryd.hb18 : HasBody Tryd.prog 18 := ⟨Tryd.f18, Tryd.func18, by kernel_rfl, by kernel_rfl⟩
theorem Tryd.hb19 : HasBody Tryd.prog 19 := ⟨Tryd.f19, Tryd.func19, by kernel_rfl, by kernel_rfl⟩
theorem Tryd.hb20 : HasBody Tryd.prog 20 := ⟨Tryd.f20, Tryd.func20, by kernel_rfl, by kernel_rfl⟩
theorem Tryd.hb21 : HasBody Tryd.prog 21 := ⟨Tryd.f21, Tryd.func21, by kernel_rfl, by kernel_rfl⟩
theorem Tryd.hb22 : HasBody Tryd.prog 22 := ⟨Tryd.f22, Tryd.func22, by kernel_rfl, by kernel_rfl⟩
theorem Tryd.hb23 : HasBody Tryd.prog 23 := ⟨Tryd.f23, Tryd.func23, by kernel_rfl, by kernel_rfl⟩
theorem Tryd.hb24 : HasBody Tryd.prog 24 := ⟨Tryd.f24, Tryd.func24, by kernel_rfl, by kernel_rfl⟩
theorem Tryd.hb25 : HasBody Tryd.prog 25 := ⟨Tryd.f25, Tryd.func25, by kernel_rfl, by kernel_rfl⟩
theorem Tryd.hb26 : HasBody Tryd.prog 26 := ⟨Tryd.f26, Tryd.func26, by kernel_rfl, by kernel_rfl⟩
theorem Tryd.hb27 : HasBody Tryd.prog 27 := ⟨Tryd.f27, Tryd.func27, by kernel_rfl, by kernel_rfl⟩
theorem Tryd.hb28 : HasBody Tryd.prog 28 := ⟨Tryd.f28, Tryd.func28, by kernel_rfl, by kernel_rfl⟩
theorem Tryd.hb29 : HasBody Tryd.prog 29 := ⟨Tryd.f29, Tryd.func29, by kernel_rfl, by kernel_rfl⟩
theorem Tryd.hb30 : HasBody Tryd.prog 30 := ⟨Tryd.f30, Tryd.func30, by kernel_rfl, by kernel_rfl⟩
theorem Tryd.hb31 : HasBody Tryd.prog 31 := ⟨Tryd.f31, Tryd.func31, by kernel_rfl, by kernel_rfl⟩
theorem Tryd.hb32 : HasBody Tryd.prog 32 := ⟨Tryd.f32, Tryd.func32, by kernel_rfl, by kernel_rfl⟩
theorem Tryd.hb33 : HasBody Tryd.prog 33 := ⟨Tryd.f33, Tryd.func33, by kernel_rfl, by kernel_rfl⟩
theorem Tryd.hb34 : HasBody Tryd.prog 34 := ⟨Tryd.f34, Tryd.func34, by kernel_rfl, by kernel_rfl⟩
theorem Tryd.hb35 : HasBody Tryd.prog 35 := ⟨Tryd.f35, Tryd.func35, by kernel_rfl, by kernel_rfl⟩
theorem Tryd.hb36 : HasBody Tryd.prog 36 := ⟨Tryd.f36, Tryd.func36, by kernel_rfl, by kernel_rfl⟩
theorem Tryd.hb37 : HasBody Tryd.prog 37 := ⟨Tryd.f37, Tryd.func37, by kernel_rfl, by kernel_rfl⟩
theorem Tryd.hb38 : HasBody Tryd.prog 38 := ⟨Tryd.f38, Tryd.func38, by kernel_rfl, by kernel_rfl⟩
theorem Tryd.hb39 : HasBody Tryd.prog 39 := ⟨Tryd.f39, Tryd.func39, by kernel_rfl, by kernel_rfl⟩
theorem Tryd.hb40 : HasBody Tryd.prog 40 := ⟨Tryd.f40, Tryd.func40, by kernel_rfl, by kernel_rfl⟩
theorem Tryd.hb41 : HasBody Tryd.prog 41 := ⟨Tryd.f41, Tryd.func41, by kernel_rfl, by kernel_rfl⟩
theorem Tryd.hb42 : HasBody Tryd.prog 42 := ⟨Tryd.f42, Tryd.func42, by kernel_rfl, by kernel_rfl⟩
theorem Tryd.hb43 : HasBody Tryd.prog 43 := ⟨Tryd.f43, Tryd.func43, by kernel_rfl, by kernel_rfl⟩
theorem Tryd.hb44 : HasBody Tryd.prog 44 := ⟨Tryd.f44, Tryd.func44, by kernel_rfl, by kernel_rfl⟩
theorem Tryd.hb45 : HasBody Tryd.prog 45 := ⟨Tryd.f45, Tryd.func45, by kernel_rfl, by kernel_rfl⟩
theorem Tryd.hb46 : HasBody Tryd.prog 46 := ⟨Tryd.f46, Tryd.func46, by kernel_rfl, by kernel_rfl⟩
theorem Tryd.hb67 : HasBody Tryd.prog 67 := ⟨Tryd.f67, Tryd.func67, by kernel_rfl, by kernel_rfl⟩
end Go.Proofs
