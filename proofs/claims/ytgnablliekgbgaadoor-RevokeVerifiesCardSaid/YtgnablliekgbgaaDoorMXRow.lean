/- The statement RevokeVerifies: for every input the law returns true, and each argument reads as it did. -/
import Derived.Test.YtgnablliekgbgaaDoorCards
import Derived.Test.YtgnablliekgbgaaDoorTie
import Derived.Test.YtgnablliekgbgaaDoorMXPLN
import Derived.Test.YtgnablliekgbgaaDoorMX5
import Derived.WalkKit
import Derived.ProofKit
import Derived.OpenShut
import Derived.ChangeOld
import Derived.Below
import Derived.Carry
import Derived.LaidMore
import Derived.Deep.DeepHandedRow
import Derived.Deep.DeepWitnessRowRef
import Derived.Lib.LaidTab
import Derived.Stop.Joined
set_option linter.unusedVariables false
set_option linter.unusedSimpArgs false
set_option maxRecDepth 100000
namespace Go.Proofs.YtgnablliekgbgaaDoor.revokeVerifiesLaw
open Go.ChangeShapes Go.WideShapes Go.ChangeAt Go.RowKit Go.PL
theorem own : ownKnob Tryd.prog.godebug = none := by kernel_rfl
theorem laidOut : laidOutB Tryd.prog = true := by kernel_rfl
theorem gRoots : Tryd.prog.globalNamed "gatepath/digest.roots" = some 0 := by kernel_rfl
theorem gRootsT : (Tryd.prog.globals[0]?).map (·.type) = some 173 := by kernel_rfl
theorem contract (H : Type) (enc : TypeId × Value → H) (W : World) (base : Nat) (args : Array Value) (ds gs : List (DataW H)) (before : List MemPlace)
    (hval0 : ∀ (j : Nat) t v, Tryd.f5.params[j]? = some t → args[j]? = some v → Value.okWide Tryd.prog W .any base t v)
    (hW : DataW.Whole enc Tryd.prog Tryd.f5.params.toList Rows.revokeVerifiesSpec.vars false W args.toList ds gs before) (hL : laidMetH Tryd.prog Rows.revokeVerifiesRow.laid W)
    : Calls Tryd.prog 5 args W fun e W' => ∃ v, e = .returned v ∧ Rows.revokeVerifiesSpec.post enc Tryd.prog Tryd.f5 false true false false W args v W' := by
  have hval : ∀ (j : Nat) t v, Tryd.f5.params[j]? = some t → args[j]? = some v → Value.okWide Tryd.prog W .any base t v := hval0
  have hW' := hW
  obtain ⟨p, q, hA0, hV, rfl, hfz, hnd⟩ := hW
  have hA : DataW.TrodAll enc Tryd.prog W 0 (fun _ => true) true Tryd.f5.params.toList args.toList ds p := hA0
  rw [Tryd.params5] at hA hval
  obtain ⟨v0, vs0, d0, ds0, p0, q0, hargs, rfl, rfl, h0, r0⟩ := trodAll_cons hA
  obtain ⟨v1, vs1, d1, ds1, p1, q1, rfl, rfl, rfl, h1, r1⟩ := trodAll_cons r0
  obtain ⟨v2, vs2, d2, ds2, p2, q2, rfl, rfl, rfl, h2, r2⟩ := trodAll_cons r1
  obtain ⟨rfl, rfl, rfl⟩ := trodAll_nil r2
  obtain rfl : args = #[v0, v1, v2] := by cases args; simp_all
  obtain ⟨rfl, rfl⟩ := trodVars_none hV
  have k0 := h0
  have lt0 : ∀ x ∈ p0, x.block < W.heap.size := by obtain ⟨m, hm⟩ := k0; exact DataW.trod_lt m _ _ _ hm
  obtain ⟨q0, e0, s0, n0⟩ := arg_one opensRv h0
  try dsimp only at e0 s0 n0
  obtain rfl := arg_agg Tryd.underlying32 rfl (hval 0 32 v0 rfl rfl) e0
  have k1 := h1
  have lt1 : ∀ x ∈ p1, x.block < W.heap.size := by obtain ⟨m, hm⟩ := k1; exact DataW.trod_lt m _ _ _ hm
  obtain ⟨⟨ix1, ⟨x1, xs1⟩, ⟨y1, ys1⟩⟩, e1, ⟨s1, l1⟩, t1, m1⟩ := arg_one opensSig h1
  try dsimp only at e1 s1 l1 t1 m1
  obtain rfl := arg_agg Tryd.underlying30 rfl (hval 1 30 v1 rfl rfl) e1
  have k2 := h2
  have lt2 : ∀ x ∈ p2, x.block < W.heap.size := by obtain ⟨m, hm⟩ := k2; exact DataW.trod_lt m _ _ _ hm
  obtain ⟨⟨rs2, kt2⟩, ca2, cb2, da2, db2, e2, ⟨ea2, l2⟩, eb2, lo2, hi2⟩ := arg_one (opens_st2 (s0 := 16) (s1 := 1) Tryd.underlying43 rfl zz6 rfl zz6 zz6 (opens_arr Tryd.underlying41 zz6 zz6 (opens_u8 Tryd.underlying5)) (opens_i64 Tryd.underlying3)) h2
  try dsimp only at e2 ea2 eb2 l2
  subst ea2 eb2
  obtain rfl := arg_agg Tryd.underlying43 rfl (hval 2 43 v2 rfl rfl) e2
  have hLe : Rows.revokeVerifiesRow.laid = ("gatepath/digest.roots", Lib.tabData .u32 (rootsL.map fun x => (x.toNat : Int))) :: [] := by kernel_rfl
  have hL2 : laidMetH Tryd.prog (("gatepath/digest.roots", Lib.tabData .u32 (rootsL.map fun x => (x.toNat : Int))) :: []) W := hLe ▸ hL
  have hT := Lib.tabIs_of_head gRoots gRootsT Tryd.underlying173 Tryd.underlying159 zz6 zz6 hL2
  have hGl : CellsAt W.cell? ⟨0, 0, none⟩ (v32s rootsL) := fun j v hj => by
    rw [add_lit, Nat.zero_add]
    have := World.var?_cell gRoots hT j
    rw [this]
    simpa [v32s] using hj
  have hG : Glb W := ⟨hGl, World.block_lt_of_cell? W _ (hGl 0 _ rfl)⟩
  clear hA0 hval0
  refine (lawVerifies11 q0 ix1 x1 y1 xs1 ys1 rs2 kt2 W s0 n0 s1 l1 t1 m1 l2 hG).mono fun e W' ⟨he, bel⟩ => ?_
  subst he
  exact ⟨_, rfl, _, _, _, [], _, [], hW', trodAll_mk1 (shut_bool Tryd.underlying4 _), (trodAll_cons_mk (Below.trod laidOut zz6 (of_decide_eq_true zz6) k0 bel lt0) (trodAll_cons_mk (Below.trod laidOut zz6 (of_decide_eq_true zz6) k1 bel lt1) (trodAll_cons_mk (Below.trod laidOut zz6 (of_decide_eq_true zz6) k2 bel lt2) trodAll_mk0))), rfl, bel.frame _, fun h => by cases h⟩
noncomputable def lw (os : Os) : World := World.doorLaid Tryd.prog 400 os
def wargs : Array Value := #[.agg #[.string ⟨#[]⟩, .int .u64 0, .int .i64 0, .int .i64 0, .slice none 0 0, .int .i64 0, .slice none 0 0, .slice none 0 0], .agg #[.int .i64 0, .slice none 0 0, .slice none 0 0], .agg #[.int .u8 0, .int .u8 0, .int .u8 0, .int .u8 0, .int .u8 0, .int .u8 0, .int .u8 0, .int .u8 0, .int .u8 0, .int .u8 0, .int .u8 0, .int .u8 0, .int .u8 0, .int .u8 0, .int .u8 0, .int .u8 0, .int .i64 0]]
theorem laid_met (os : Os) : laidMetH Tryd.prog Rows.revokeVerifiesRow.laid ((lw os).forCall (fun _ _ => 0) ⟨#[], wargs, []⟩).memory := laidMetH_of_parts3 (fuel := 8) (laidMet_of_run' 8 zz6 zz6) zz6 zz6
theorem reads (os : Os) {H : Type} (enc : TypeId × Value → H) : ∃ places, DataW.whole enc Tryd.prog ((lw os).forCall (fun _ _ => 0) ⟨#[], wargs, []⟩).memory Tryd.f5.params.toList Rows.revokeVerifiesSpec.vars false wargs.toList 8 = some ([.agg [.lit (.string []), .lit (.int .u64 0), .agg [.lit (.int .i64 0), .lit (.int .i64 0)], .nil, .agg [.lit (.int .i64 0), .nil, .nil]], .agg [.lit (.int .i64 0), .nil, .nil], .agg [.agg [.lit (.int .u8 0), .lit (.int .u8 0), .lit (.int .u8 0), .lit (.int .u8 0), .lit (.int .u8 0), .lit (.int .u8 0), .lit (.int .u8 0), .lit (.int .u8 0), .lit (.int .u8 0), .lit (.int .u8 0), .lit (.int .u8 0), .lit (.int .u8 0), .lit (.int .u8 0), .lit (.int .u8 0), .lit (.int .u8 0), .lit (.int .u8 0)], .lit (.int .i64 0)]], [], places) := ⟨[], zz6⟩
theorem lifted (os : Os) (started : os.Started) (H : Type) (enc : TypeId × Value → H) (F : Stop.Interp) :
    ReturnsInHanded {} Tryd.checked os 5 .any ((OpenSpec.ofChange Rows.revokeVerifiesSpec).preRow enc Tryd.prog Tryd.f5 Rows.revokeVerifiesRow.domain false Rows.revokeVerifiesRow.laid) (((OpenSpec.ofChange Rows.revokeVerifiesSpec).at F).post enc Tryd.prog Tryd.f5 false true false false) := by
  obtain ⟨places, hx⟩ := reads os enc
  refine returnsInHanded_of_row (C := Tryd.checked) (s := (OpenSpec.ofChange Rows.revokeVerifiesSpec)) own started zz6 Tryd.func5
    (witness_row_atRef (enc := enc) (C := Tryd.checked) false (lw os) wargs rfl zz6 zz6 zz6
      (OpenSpec.preRow_of_cond 8 hx zz6 (fun k hk => by cases hk) zz6 (laid_met os))) ?_
  intro W base args ds gs before hval hW _ hcond _ hL _ _
  exact contract H enc W base args ds gs before hval hW hL
theorem said : Rows.RevokeVerifiesSaid :=
  OpenClaim.holds_of_cond 5 Tryd.f5 rfl rfl rfl rfl rfl rfl rfl ⟨rfl, rfl, rfl, rfl, rfl⟩ rfl rfl rfl rfl rfl zz6 Tryd.func5 zz6
    (of_decide_eq_true zz6) (by unfold Func.isWrapper; first | (rw [if_pos (by decide +kernel)]; kernel_rfl) | (rw [if_neg (by decide +kernel)]; exact ⟨rfl, rfl⟩))
    (fun os started H enc _ F => by rw [OpenClaim.pre_eq_preRow]; exact lifted os started H enc F)
theorem plain (f : FuncId) (fn : Func) (hf : Tryd.pinned.checked.prog.funcNamed "gatepath/gatepathlaw11.RevokeVerifies" = some f) (hfn : Tryd.pinned.checked.prog.funcs[f]? = some fn) :
    true = Tryd.pinned.checked.prog.looks [] ∧ ∀ (j : Nat) t, fn.params[j]? = some t → Tryd.pinned.checked.prog.wantsStandIn t = false := by
  obtain rfl : f = 5 := Option.some.inj ((show Tryd.prog.funcNamed "gatepath/gatepathlaw11.RevokeVerifies" = some 5 from zz6).symm.trans hf) |>.symm
  obtain rfl : fn = Tryd.f5 := (Option.some.inj (Tryd.func5.symm.trans hfn)).symm
  refine ⟨zz6, fun j t ht => ?_⟩
  rw [Tryd.params5] at ht
  have hm : t ∈ [32, 30, 43] := by simpa using Array.mem_of_getElem? ht
  have hall : ([32, 30, 43].all fun u => !Tryd.prog.wantsStandIn u) = true := by kernel_rfl
  exact (show Tryd.prog.wantsStandIn t = false by simpa using List.all_eq_true.1 hall t hm)
theorem card : Rows.RevokeVerifiesCardSaid :=
  Claim7.holds_tied_plain_at .later [] _ _ _ _ said (fun _ h => by cases h) zz6 (fun _ h => by cases h) revokeVerifies_row_tie rfl ⟨rfl, rfl⟩ zz6 rfl plain zz6
end Go.Proofs.YtgnablliekgbgaaDoor.revokeVerifiesLaw
namespace Go.Proofs.YtgnablliekgbgaaDoor
theorem revokeVerifies_holds : Rows.RevokeVerifiesCardSaid := revokeVerifiesLaw.card
end Go.Proofs.YtgnablliekgbgaaDoor
