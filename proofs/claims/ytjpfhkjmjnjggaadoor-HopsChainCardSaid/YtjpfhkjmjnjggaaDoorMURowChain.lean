/- The statement HopsChain: for every input the law returns true, and each argument reads as it did. -/
import Derived.Test.YtjpfhkjmjnjggaaDoorCards
import Derived.Test.YtjpfhkjmjnjggaaDoorTie
import Derived.Test.YtjpfhkjmjnjggaaDoorMU6
import Derived.WalkKit
import Derived.ProofKit
import Derived.OpenShut
import Derived.ChangeOld
import Derived.Below
import Derived.Carry
import Derived.LaidMore
import Derived.Deep.DeepHandedRow
import Derived.Deep.DeepWitnessRowRef
import Derived.Lib.LaidTab
import Derived.Stop.Joined
set_option linter.unusedVariables false
set_option linter.unusedSimpArgs false
set_option maxRecDepth 100000
namespace Go.Proofs.YtjpfhkjmjnjggaaDoor.hopsChainLaw
open Go.ChangeShapes Go.WideShapes Go.ChangeAt Go.RowKit Go.PL
theorem own : ownKnob Tryd.prog.godebug = none := by kernel_rfl
theorem laidOut : laidOutB Tryd.prog = true := by kernel_rfl
theorem gRoots : Tryd.prog.globalNamed "gatepath/digest.roots" = some 0 := by kernel_rfl
theorem gRootsT : (Tryd.prog.globals[0]?).map (·.type) = some 150 := by kernel_rfl
theorem contract (H : Type) (enc : TypeId × Value → H) (W : World) (base : Nat) (args : Array Value) (ds gs : List (DataW H)) (before : List MemPlace)
    (hval0 : ∀ (j : Nat) t v, Tryd.f8.params[j]? = some t → args[j]? = some v → Value.okWide Tryd.prog W .any base t v)
    (hW : DataW.Whole enc Tryd.prog Tryd.f8.params.toList Rows.hopsChainSpec.vars false W args.toList ds gs before) (hL : laidMetH Tryd.prog Rows.hopsChainRow.laid W)
    : Calls Tryd.prog 8 args W fun e W' => ∃ v, e = .returned v ∧ Rows.hopsChainSpec.post enc Tryd.prog Tryd.f8 false true false false W args v W' := by
  have hval : ∀ (j : Nat) t v, Tryd.f8.params[j]? = some t → args[j]? = some v → Value.okWide Tryd.prog W .any base t v := hval0
  have hW' := hW
  obtain ⟨p, q, hA0, hV, rfl, hfz, hnd⟩ := hW
  have hA : DataW.TrodAll enc Tryd.prog W 0 (fun _ => true) true Tryd.f8.params.toList args.toList ds p := hA0
  rw [Tryd.params8] at hA hval
  obtain ⟨v0, vs0, d0, ds0, p0, q0, hargs, rfl, rfl, h0, r0⟩ := trodAll_cons hA
  obtain ⟨v1, vs1, d1, ds1, p1, q1, rfl, rfl, rfl, h1, r1⟩ := trodAll_cons r0
  obtain ⟨v2, vs2, d2, ds2, p2, q2, rfl, rfl, rfl, h2, r2⟩ := trodAll_cons r1
  obtain ⟨v3, vs3, d3, ds3, p3, q3, rfl, rfl, rfl, h3, r3⟩ := trodAll_cons r2
  obtain ⟨v4, vs4, d4, ds4, p4, q4, rfl, rfl, rfl, h4, r4⟩ := trodAll_cons r3
  obtain ⟨v5, vs5, d5, ds5, p5, q5, rfl, rfl, rfl, h5, r5⟩ := trodAll_cons r4
  obtain ⟨v6, vs6, d6, ds6, p6, q6, rfl, rfl, rfl, h6, r6⟩ := trodAll_cons r5
  obtain ⟨rfl, rfl, rfl⟩ := trodAll_nil r6
  obtain rfl : args = #[v0, v1, v2, v3, v4, v5, v6] := by cases args; simp_all
  obtain ⟨rfl, rfl⟩ := trodVars_none hV
  have k0 := h0
  have lt0 : ∀ x ∈ p0, x.block < W.heap.size := by obtain ⟨m, hm⟩ := k0; exact DataW.trod_lt m _ _ _ hm
  obtain ⟨⟨f0, a0, b0, l0⟩, e0⟩ := arg_one opensPfx h0
  try dsimp only at e0
  obtain rfl := arg_agg Tryd.underlying26 rfl (hval 0 26 v0 rfl rfl) e0
  have k1 := h1
  have lt1 : ∀ x ∈ p1, x.block < W.heap.size := by obtain ⟨m, hm⟩ := k1; exact DataW.trod_lt m _ _ _ hm
  obtain ⟨q1, e1, s1⟩ := arg_one opensHop h1
  try dsimp only at e1 s1
  obtain rfl := arg_agg Tryd.underlying68 rfl (hval 1 68 v1 rfl rfl) e1
  have k2 := h2
  have lt2 : ∀ x ∈ p2, x.block < W.heap.size := by obtain ⟨m, hm⟩ := k2; exact DataW.trod_lt m _ _ _ hm
  obtain ⟨q2, e2, s2⟩ := arg_one opensHop h2
  try dsimp only at e2 s2
  obtain rfl := arg_agg Tryd.underlying68 rfl (hval 2 68 v2 rfl rfl) e2
  have k3 := h3
  have lt3 : ∀ x ∈ p3, x.block < W.heap.size := by obtain ⟨m, hm⟩ := k3; exact DataW.trod_lt m _ _ _ hm
  obtain ⟨xs3, e3, l3⟩ := arg_one (opens_arr Tryd.underlying61 zz5 zz5 (opens_u8 Tryd.underlying5)) h3
  try dsimp only at e3 l3
  obtain rfl := arg_agg Tryd.underlying61 rfl (hval 3 61 v3 rfl rfl) e3
  have k4 := h4
  have lt4 : ∀ x ∈ p4, x.block < W.heap.size := by obtain ⟨m, hm⟩ := k4; exact DataW.trod_lt m _ _ _ hm
  obtain ⟨xs4, e4, l4⟩ := arg_one (opens_arr Tryd.underlying61 zz5 zz5 (opens_u8 Tryd.underlying5)) h4
  try dsimp only at e4 l4
  obtain rfl := arg_agg Tryd.underlying61 rfl (hval 4 61 v4 rfl rfl) e4
  have k5 := h5
  have lt5 : ∀ x ∈ p5, x.block < W.heap.size := by obtain ⟨m, hm⟩ := k5; exact DataW.trod_lt m _ _ _ hm
  obtain ⟨x5, e5, lo5, hi5⟩ := arg_one (opens_i64 Tryd.underlying3) h5
  try dsimp only at e5
  obtain rfl := arg_of Tryd.underlying3 rfl (hval 5 3 v5 rfl rfl) e5
  have k6 := h6
  have lt6 : ∀ x ∈ p6, x.block < W.heap.size := by obtain ⟨m, hm⟩ := k6; exact DataW.trod_lt m _ _ _ hm
  obtain ⟨x6, e6⟩ := arg_one (opens_u32 Tryd.underlying49) h6
  try dsimp only at e6
  obtain rfl := arg_of Tryd.underlying49 rfl (hval 6 49 v6 rfl rfl) e6
  have hLe : Rows.hopsChainRow.laid = ("gatepath/digest.roots", Lib.tabData .u32 (rootsL.map fun x => (x.toNat : Int))) :: [] := by kernel_rfl
  have hL2 : laidMetH Tryd.prog (("gatepath/digest.roots", Lib.tabData .u32 (rootsL.map fun x => (x.toNat : Int))) :: []) W := hLe ▸ hL
  have hT := Lib.tabIs_of_head gRoots gRootsT Tryd.underlying150 Tryd.underlying49 zz5 zz5 hL2
  have hGl : CellsAt W.cell? ⟨0, 0, none⟩ (v32s rootsL) := fun j v hj => by
    rw [add_lit, Nat.zero_add]
    have := World.var?_cell gRoots hT j
    rw [this]
    simpa [v32s] using hj
  have hG : Glb W := ⟨hGl, World.block_lt_of_cell? W _ (hGl 0 _ rfl)⟩
  clear hA0 hval0
  refine (lawChain f0 a0 b0 l0 q1 q2 ⟨xs3, l3⟩ ⟨xs4, l4⟩ x5 x6 W s1.sv s2.sv hG).mono fun e W' ⟨he, bel⟩ => ?_
  subst he
  exact ⟨_, rfl, _, _, _, [], _, [], hW', trodAll_mk1 (shut_bool Tryd.underlying4 _), (trodAll_cons_mk (Below.trod laidOut zz5 (of_decide_eq_true zz5) k0 bel lt0) (trodAll_cons_mk (Below.trod laidOut zz5 (of_decide_eq_true zz5) k1 bel lt1) (trodAll_cons_mk (Below.trod laidOut zz5 (of_decide_eq_true zz5) k2 bel lt2) (trodAll_cons_mk (Below.trod laidOut zz5 (of_decide_eq_true zz5) k3 bel lt3) (trodAll_cons_mk (Below.trod laidOut zz5 (of_decide_eq_true zz5) k4 bel lt4) (trodAll_cons_mk (Below.trod laidOut zz5 (of_decide_eq_true zz5) k5 bel lt5) (trodAll_cons_mk (Below.trod laidOut zz5 (of_decide_eq_true zz5) k6 bel lt6) trodAll_mk0))))))), rfl, bel.frame _, fun h => by cases h⟩
noncomputable def lw (os : Os) : World := World.doorLaid Tryd.prog 400 os
def wargs : Array Value := #[.agg #[.int .u8 0, .int .u64 0, .int .u64 0, .int .i64 0], .agg #[.int .u32 0, .int .u8 0, .int .u8 0, .int .u32 0, .int .u8 0, .int .u8 0, .int .u8 0, .int .u8 0, .int .u8 0, .int .u8 0, .int .u8 0, .int .u8 0, .int .u8 0, .int .u8 0, .int .u8 0, .int .u8 0, .int .u8 0, .int .u8 0, .int .u8 0, .int .u8 0, .int .i64 0, .int .i64 0, .slice none 0 0, .slice none 0 0], .agg #[.int .u32 0, .int .u8 0, .int .u8 0, .int .u32 0, .int .u8 0, .int .u8 0, .int .u8 0, .int .u8 0, .int .u8 0, .int .u8 0, .int .u8 0, .int .u8 0, .int .u8 0, .int .u8 0, .int .u8 0, .int .u8 0, .int .u8 0, .int .u8 0, .int .u8 0, .int .u8 0, .int .i64 0, .int .i64 0, .slice none 0 0, .slice none 0 0], .agg #[.int .u8 0, .int .u8 0, .int .u8 0, .int .u8 0, .int .u8 0, .int .u8 0, .int .u8 0, .int .u8 0, .int .u8 0, .int .u8 0, .int .u8 0, .int .u8 0, .int .u8 0, .int .u8 0, .int .u8 0, .int .u8 0], .agg #[.int .u8 0, .int .u8 0, .int .u8 0, .int .u8 0, .int .u8 0, .int .u8 0, .int .u8 0, .int .u8 0, .int .u8 0, .int .u8 0, .int .u8 0, .int .u8 0, .int .u8 0, .int .u8 0, .int .u8 0, .int .u8 0], .int .i64 0, .int .u32 0]
theorem laid_met (os : Os) : laidMetH Tryd.prog Rows.hopsChainRow.laid ((lw os).forCall (fun _ _ => 0) ⟨#[], wargs, []⟩).memory := laidMetH_of_parts3 (fuel := 8) (laidMet_of_run' 8 zz5 zz5) zz5 zz5
theorem reads (os : Os) {H : Type} (enc : TypeId × Value → H) : ∃ places, DataW.whole enc Tryd.prog ((lw os).forCall (fun _ _ => 0) ⟨#[], wargs, []⟩).memory Tryd.f8.params.toList Rows.hopsChainSpec.vars false wargs.toList 8 = some ([.agg [.lit (.int .u8 0), .agg [.lit (.int .u64 0), .lit (.int .u64 0)], .lit (.int .i64 0)], .agg [.lit (.int .u32 0), .lit (.int .u8 0), .lit (.int .u8 0), .lit (.int .u32 0), .agg [.agg [.lit (.int .u8 0), .lit (.int .u8 0), .lit (.int .u8 0), .lit (.int .u8 0), .lit (.int .u8 0), .lit (.int .u8 0), .lit (.int .u8 0), .lit (.int .u8 0), .lit (.int .u8 0), .lit (.int .u8 0), .lit (.int .u8 0), .lit (.int .u8 0), .lit (.int .u8 0), .lit (.int .u8 0), .lit (.int .u8 0), .lit (.int .u8 0)], .lit (.int .i64 0)], .agg [.lit (.int .i64 0), .nil, .nil]], .agg [.lit (.int .u32 0), .lit (.int .u8 0), .lit (.int .u8 0), .lit (.int .u32 0), .agg [.agg [.lit (.int .u8 0), .lit (.int .u8 0), .lit (.int .u8 0), .lit (.int .u8 0), .lit (.int .u8 0), .lit (.int .u8 0), .lit (.int .u8 0), .lit (.int .u8 0), .lit (.int .u8 0), .lit (.int .u8 0), .lit (.int .u8 0), .lit (.int .u8 0), .lit (.int .u8 0), .lit (.int .u8 0), .lit (.int .u8 0), .lit (.int .u8 0)], .lit (.int .i64 0)], .agg [.lit (.int .i64 0), .nil, .nil]], .agg [.lit (.int .u8 0), .lit (.int .u8 0), .lit (.int .u8 0), .lit (.int .u8 0), .lit (.int .u8 0), .lit (.int .u8 0), .lit (.int .u8 0), .lit (.int .u8 0), .lit (.int .u8 0), .lit (.int .u8 0), .lit (.int .u8 0), .lit (.int .u8 0), .lit (.int .u8 0), .lit (.int .u8 0), .lit (.int .u8 0), .lit (.int .u8 0)], .agg [.lit (.int .u8 0), .lit (.int .u8 0), .lit (.int .u8 0), .lit (.int .u8 0), .lit (.int .u8 0), .lit (.int .u8 0), .lit (.int .u8 0), .lit (.int .u8 0), .lit (.int .u8 0), .lit (.int .u8 0), .lit (.int .u8 0), .lit (.int .u8 0), .lit (.int .u8 0), .lit (.int .u8 0), .lit (.int .u8 0), .lit (.int .u8 0)], .lit (.int .i64 0), .lit (.int .u32 0)], [], places) := ⟨[], zz5⟩
theorem lifted (os : Os) (started : os.Started) (H : Type) (enc : TypeId × Value → H) (F : Stop.Interp) :
    ReturnsInHanded {} Tryd.checked os 8 .any ((OpenSpec.ofChange Rows.hopsChainSpec).preRow enc Tryd.prog Tryd.f8 Rows.hopsChainRow.domain false Rows.hopsChainRow.laid) (((OpenSpec.ofChange Rows.hopsChainSpec).at F).post enc Tryd.prog Tryd.f8 false true false false) := by
  obtain ⟨places, hx⟩ := reads os enc
  refine returnsInHanded_of_row (C := Tryd.checked) (s := (OpenSpec.ofChange Rows.hopsChainSpec)) own started zz5 Tryd.func8
    (witness_row_atRef (enc := enc) (C := Tryd.checked) false (lw os) wargs rfl zz5 zz5 zz5
      (OpenSpec.preRow_of_cond 8 hx zz5 (fun k hk => by cases hk) zz5 (laid_met os))) ?_
  intro W base args ds gs before hval hW _ hcond _ hL _ _
  exact contract H enc W base args ds gs before hval hW hL
theorem said : Rows.HopsChainSaid :=
  OpenClaim.holds_of_cond 8 Tryd.f8 rfl rfl rfl rfl rfl rfl rfl ⟨rfl, rfl, rfl, rfl, rfl⟩ rfl rfl rfl rfl rfl zz5 Tryd.func8 zz5
    (of_decide_eq_true zz5) zz42
    (fun os started H enc _ F => by rw [OpenClaim.pre_eq_preRow]; exact lifted os started H enc F)
theorem plain (f : FuncId) (fn : Func) (hf : Tryd.pinned.checked.prog.funcNamed "gatepath/gatepathlaw42.HopsChain" = some f) (hfn : Tryd.pinned.checked.prog.funcs[f]? = some fn) :
    false = Tryd.pinned.checked.prog.looks [] ∧ ∀ (j : Nat) t, fn.params[j]? = some t → Tryd.pinned.checked.prog.wantsStandIn t = false := by
  obtain rfl : f = 8 := Option.some.inj ((show Tryd.prog.funcNamed "gatepath/gatepathlaw42.HopsChain" = some 8 from zz5).symm.trans hf) |>.symm
  obtain rfl : fn = Tryd.f8 := (Option.some.inj (Tryd.func8.symm.trans hfn)).symm
  refine ⟨zz5, fun j t ht => ?_⟩
  rw [Tryd.params8] at ht
  have hm : t ∈ [26, 68, 68, 61, 61, 3, 49] := by simpa using Array.mem_of_getElem? ht
  have hall : ([26, 68, 68, 61, 61, 3, 49].all fun u => !Tryd.prog.wantsStandIn u) = true := by kernel_rfl
  exact (show Tryd.prog.wantsStandIn t = false by simpa using List.all_eq_true.1 hall t hm)
theorem card : Rows.HopsChainCardSaid :=
  Claim7.holds_tied_plain_at .later [] _ _ _ _ said (fun _ h => by cases h) zz5 (fun _ h => by cases h) hopsChain_row_tie rfl ⟨rfl, rfl⟩ zz5 rfl plain zz5
end Go.Proofs.YtjpfhkjmjnjggaaDoor.hopsChainLaw
namespace Go.Proofs.YtjpfhkjmjnjggaaDoor
theorem hopsChain_holds : Rows.HopsChainCardSaid := hopsChainLaw.card
end Go.Proofs.YtjpfhkjmjnjggaaDoor
