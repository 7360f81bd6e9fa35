/- Of the types: the zero value, cells, bytes; of the functions: that they have a body. -/
import Derived.Test.YtoefmoniafhgfaaProg
import Derived.Test.YtoefmoniafhgfaaPLT
import Derived.KernelRfl
namespace Go.Proofs
open Go.PL
theorem Try.ti2 : TyI Try.prog 2 (.int .i64 0) 1 8 := by unfold TyI; kernel_rfl
theorem Try.ti23 : TyI Try.prog 23 (.agg #[.int .i64 0, .int .i64 0]) 2 16 := by unfold TyI; kernel_rfl
theorem Try.ti24 : TyI Try.prog 24 (.int .i64 0) 1 8 := by unfold TyI; kernel_rfl
theorem Try.ti30 : TyI Try.prog 30 (.agg #[.int .i64 0, .int .i64 0]) 2 16 := by unfold TyI; kernel_rfl
theorem Try.ti39 : TyI Try.prog 39 (.slice none 0 0) 1 24 := by unfold TyI; kernel_rfl
theorem Try.ti54 : TyI Try.prog 54 (.agg #[.int .i64 0, .int .i64 0]) 2 16 := by unfold TyI; kernel_rfl
theorem Try.ti61 : TyI Try.prog 61 (.slice none 0 0) 1 24 := by unfold TyI; kernel_rfl
theorem Try.hb3 : HasBody Try.prog 3 := ⟨Try.f3, Try.func3, by kernel_rfl, by kernel_rfl⟩
theorem Try.hb4 : HasBody Try.prog 4 := ⟨Try.f4, Try.func4, by kernel_rfl, by kernel_rfl⟩
theorem Try.hb5 : HasBody Try.prog 5 := ⟨Try.f5, Try.func5, by kernel_rfl, by kernel_rfl⟩
theorem Try.hb6 : HasBody Try.prog 6 := ⟨Try.f6, Try.func6, by kernel_rfl, by kernel_rfl⟩
theorem Try.hb7 : HasBody Try.prog 7 := ⟨Try.f7, Try.func7, by kernel_rfl, by kernel_rfl⟩
theorem Try.hb8 : HasBody Try.prog 8 := ⟨Try.f8, Try.func8, by kernel_rfl, by kernel_rfl⟩
theorem Try.hb9 : HasBody Try.prog 9 := ⟨Try.f9, Try.func9, by kernel_rfl, by kernel_rfl⟩
theorem Try.hb10 : HasBody Try.prog 10 := ⟨Try.f10, Try.func10, by kernel_rfl, by kernel_rfl⟩
theorem Try.hb11 : HasBody Try.prog 11 := ⟨Try.f11, Try.func11, by kernel_rfl, by kernel_rfl⟩
theorem Try.hb12 : HasBody Try.prog 12 := ⟨Try.f12, Try.func12, by kernel_rfl, by kernel_rfl⟩
theorem Try.hb13 : HasBody Try.prog 13 := ⟨Try.f13, Try.func13, by kernel_rfl, by kernel_rfl⟩
theorem Try.hb14 : HasBody Try.prog 14 := ⟨Try.f14, Try.func14, by kernel_rfl, by kernel_rfl⟩
theorem Try.hb15 : HasBody Try.prog 15 := ⟨Try.f15, Try.func15, by kernel_rfl, by kernel_rfl⟩
theorem Try.hb16 : HasBody Try.prog 16 := ⟨Try.f16, Try.func16, by kernel_rfl, by kernel_rfl⟩
theorem Try.hb17 : HasBody Try.prog 17 := ⟨Try.f17, Try.func17, by kernel_rfl, by kernel_rfl⟩
theorem Try.hb18 : HasBody Try.prog 18 := ⟨Try.f18, Try.func18, by kernel_rfl, by kernel_rfl⟩
theorem Try.hb19 : HasBody Try.prog 19 := ⟨Try.f19, Try.func19, by kernel_rfl, by kernel_rfl⟩
theorem Try.hb20 : HasBody Try.prog 20 := ⟨Try.f20, Try.func20, by kernel_rfl, by kernel_rfl⟩
theorem Try.hb21 : HasBody Try.prog 21 := ⟨Try.f21, Try.func21, by kernel_rfl, by kernel_rfl⟩
theorem Try.hb22 : HasBody Try.prog 22 := ⟨Try.f22, Try.func22, by kernel_rfl, by kernel_rfl⟩
theorem Try.hb23 : HasBody Try.prog 23 := ⟨Try.f23, Try.func23, by kernel_rfl, by kernel_rfl⟩
theorem Try.hb24 : HasBody Try.prog 24 := ⟨Try.f24, Try.func24, by kernel_rfl, by kernel_rfl⟩
theorem Try.hb25 : HasBody Try.prog 25 := ⟨Try.f25, Try.func25, by kernel_rfl, by kernel_rfl⟩
theorem Try.hb26 : HasBody Try.prog 26 := ⟨Try.f26, Try.func26, by kernel_rfl, by kernel_rfl⟩
theorem Try.hb27 : HasBody Try.prog 27 := ⟨Try.f27, Try.func27, by kernel_rfl, by kernel_rfl⟩
theorem Try.hb28 : HasBody Try.prog 28 := ⟨Try.f28, Try.func28, by kernel_rfl, by kernel_rfl⟩
theorem Try.hb29 : HasBody Try.prog 29 := ⟨Try.f29, Try.func29, by kernel_rfl, by kernel_rfl⟩
theorem Try.hb30 : HasBody Try.prog 30 := ⟨Try.f30, Try.func30, by kernel_rfl, by kernel_rfl⟩
theorem Try.hb31 : HasBody Try.prog 31 := ⟨Try.f31, Try.func31, by kernel_rfl, by kernel_rfl⟩
theorem Try.hb32 : HasBody Try.prog 32 := ⟨Try.f32, Try.func32, by kernel_rfl, by kernel_rfl⟩
theorem Try.hb33 : HasBody Try.prog 33 := ⟨Try.f33, Try.func33, by kernel_rfl, by kernel_rfl⟩
end Go.Proofs
