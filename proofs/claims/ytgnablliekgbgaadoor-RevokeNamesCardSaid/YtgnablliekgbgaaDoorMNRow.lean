/- The statement RevokeNames: for every input the law returns true, and each argument reads as it did. -/
import Derived.Test.YtgnablliekgbgaaDoorCards
import Derived.Test.YtgnablliekgbgaaDoorTie
import Derived.Test.YtgnablliekgbgaaDoorMNPLN
import Derived.Test.YtgnablliekgbgaaDoorMN6
import Derived.WalkKit
import Derived.ProofKit
import Derived.OpenShut
import Derived.ChangeOld
import Derived.Below
import Derived.Carry
import Derived.LaidMore
import Derived.Deep.DeepHandedRow
import Derived.Deep.DeepWitnessRowRef
import Derived.Lib.LaidTab
import Derived.Stop.Joined
set_option linter.unusedVariables false
set_option linter.unusedSimpArgs false
set_option maxRecDepth 100000
namespace Go.Proofs.YtgnablliekgbgaaDoor.revokeNamesLaw
open Go.ChangeShapes Go.WideShapes Go.ChangeAt Go.RowKit Go.PL
theorem own : ownKnob Tryd.prog.godebug = none := by kernel_rfl
theorem laidOut : laidOutB Tryd.prog = true := by kernel_rfl
theorem gRoots : Tryd.prog.globalNamed "gatepath/digest.roots" = some 0 := by kernel_rfl
theorem gRootsT : (Tryd.prog.globals[0]?).map (·.type) = some 173 := by kernel_rfl
theorem contract (H : Type) (enc : TypeId × Value → H) (W : World) (base : Nat) (args : Array Value) (ds gs : List (DataW H)) (before : List MemPlace)
    (hval0 : ∀ (j : Nat) t v, Tryd.f3.params[j]? = some t → args[j]? = some v → Value.okWide Tryd.prog W .any base t v)
    (hW : DataW.Whole enc Tryd.prog Tryd.f3.params.toList Rows.revokeNamesSpec.vars false W args.toList ds gs before) (hL : laidMetH Tryd.prog Rows.revokeNamesRow.laid W)
    : Calls Tryd.prog 3 args W fun e W' => ∃ v, e = .returned v ∧ Rows.revokeNamesSpec.post enc Tryd.prog Tryd.f3 false true false false W args v W' := by
  have hval : ∀ (j : Nat) t v, Tryd.f3.params[j]? = some t → args[j]? = some v → Value.okWide Tryd.prog W .any base t v := hval0
  have hW' := hW
  obtain ⟨p, q, hA0, hV, rfl, hfz, hnd⟩ := hW
  have hA : DataW.TrodAll enc Tryd.prog W 0 (fun _ => true) true Tryd.f3.params.toList args.toList ds p := hA0
  rw [Tryd.params3] at hA hval
  obtain ⟨hargs, rfl, rfl⟩ := trodAll_nil hA
  obtain rfl : args = #[] := by cases args; simp_all
  obtain ⟨rfl, rfl⟩ := trodVars_none hV
  have hLe : Rows.revokeNamesRow.laid = ("gatepath/digest.roots", Lib.tabData .u32 (rootsL.map fun x => (x.toNat : Int))) :: [] := by kernel_rfl
  have hL2 : laidMetH Tryd.prog (("gatepath/digest.roots", Lib.tabData .u32 (rootsL.map fun x => (x.toNat : Int))) :: []) W := hLe ▸ hL
  have hT := Lib.tabIs_of_head gRoots gRootsT Tryd.underlying173 Tryd.underlying159 zz7 zz7 hL2
  have hGl : CellsAt W.cell? ⟨0, 0, none⟩ (v32s rootsL) := fun j v hj => by
    rw [add_lit, Nat.zero_add]
    have := World.var?_cell gRoots hT j
    rw [this]
    simpa [v32s] using hj
  have hG : Glb W := ⟨hGl, World.block_lt_of_cell? W _ (hGl 0 _ rfl)⟩
  clear hA0 hval0
  refine (lawNames11 W hG).mono fun e W' ⟨he, bel⟩ => ?_
  subst he
  exact ⟨_, rfl, _, _, _, [], _, [], hW', trodAll_mk1 (shut_bool Tryd.underlying4 _), trodAll_mk0, rfl, bel.frame _, fun h => by cases h⟩
noncomputable def lw (os : Os) : World := World.doorLaid Tryd.prog 400 os
def wargs : Array Value := #[]
theorem laid_met (os : Os) : laidMetH Tryd.prog Rows.revokeNamesRow.laid ((lw os).forCall (fun _ _ => 0) ⟨#[], wargs, []⟩).memory := laidMetH_of_parts3 (fuel := 8) (laidMet_of_run' 8 zz7 zz7) zz7 zz7
theorem reads (os : Os) {H : Type} (enc : TypeId × Value → H) : ∃ places, DataW.whole enc Tryd.prog ((lw os).forCall (fun _ _ => 0) ⟨#[], wargs, []⟩).memory Tryd.f3.params.toList Rows.revokeNamesSpec.vars false wargs.toList 8 = some ([], [], places) := ⟨[], zz7⟩
theorem lifted (os : Os) (started : os.Started) (H : Type) (enc : TypeId × Value → H) (F : Stop.Interp) :
    ReturnsInHanded {} Tryd.checked os 3 .any ((OpenSpec.ofChange Rows.revokeNamesSpec).preRow enc Tryd.prog Tryd.f3 Rows.revokeNamesRow.domain false Rows.revokeNamesRow.laid) (((OpenSpec.ofChange Rows.revokeNamesSpec).at F).post enc Tryd.prog Tryd.f3 false true false false) := by
  obtain ⟨places, hx⟩ := reads os enc
  refine returnsInHanded_of_row (C := Tryd.checked) (s := (OpenSpec.ofChange Rows.revokeNamesSpec)) own started zz7 Tryd.func3
    (witness_row_atRef (enc := enc) (C := Tryd.checked) false (lw os) wargs rfl zz7 zz7 zz7
      (OpenSpec.preRow_of_cond 8 hx zz7 (fun k hk => by cases hk) zz7 (laid_met os))) ?_
  intro W base args ds gs before hval hW _ hcond _ hL _ _
  exact contract H enc W base args ds gs before hval hW hL
theorem said : Rows.RevokeNamesSaid :=
  OpenClaim.holds_of_cond 3 Tryd.f3 rfl rfl rfl rfl rfl rfl rfl ⟨rfl, rfl, rfl, rfl, rfl⟩ rfl rfl rfl rfl rfl zz7 Tryd.func3 zz7
    (of_decide_eq_true zz7) (by unfold Func.isWrapper; first | (rw [if_pos zz49]; kernel_rfl) | (rw [if_neg zz49]; exact ⟨rfl, rfl⟩))
    (fun os started H enc _ F => by rw [OpenClaim.pre_eq_preRow]; exact lifted os started H enc F)
theorem plain (f : FuncId) (fn : Func) (hf : Tryd.pinned.checked.prog.funcNamed "gatepath/gatepathlaw11.RevokeNames" = some f) (hfn : Tryd.pinned.checked.prog.funcs[f]? = some fn) :
    true = Tryd.pinned.checked.prog.looks [] ∧ ∀ (j : Nat) t, fn.params[j]? = some t → Tryd.pinned.checked.prog.wantsStandIn t = false := by
  obtain rfl : f = 3 := Option.some.inj ((show Tryd.prog.funcNamed "gatepath/gatepathlaw11.RevokeNames" = some 3 from zz7).symm.trans hf) |>.symm
  obtain rfl : fn = Tryd.f3 := (Option.some.inj (Tryd.func3.symm.trans hfn)).symm
  refine ⟨zz7, fun j t ht => ?_⟩
  rw [Tryd.params3] at ht
  have hm : t ∈ [] := by simpa using Array.mem_of_getElem? ht
  have hall : ([].all fun u => !Tryd.prog.wantsStandIn u) = true := by kernel_rfl
  exact (show Tryd.prog.wantsStandIn t = false by simpa using List.all_eq_true.1 hall t hm)
theorem card : Rows.RevokeNamesCardSaid :=
  Claim7.holds_tied_plain_at .later [] _ _ _ _ said (fun _ h => by cases h) zz7 (fun _ h => by cases h) revokeNames_row_tie rfl ⟨rfl, rfl⟩ zz7 rfl plain zz7
end Go.Proofs.YtgnablliekgbgaaDoor.revokeNamesLaw
namespace Go.Proofs.YtgnablliekgbgaaDoor
theorem revokeNames_holds : Rows.RevokeNamesCardSaid := revokeNamesLaw.card
end Go.Proofs.YtgnablliekgbgaaDoor
