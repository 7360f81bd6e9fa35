/- The statement DigestNames: for every input the law returns true, and each argument reads as it did. -/
import Derived.Test.YtlapmdiabhlbmaaDoorCards
import Derived.Test.YtlapmdiabhlbmaaDoorTie
import Derived.Test.YtlapmdiabhlbmaaDoorMNPLN
import Derived.Test.YtlapmdiabhlbmaaDoorMN2
import Derived.Stop.LaidErr
import Derived.WalkKit
import Derived.ProofKit
import Derived.OpenShut
import Derived.ChangeOld
import Derived.Below
import Derived.Carry
import Derived.LaidMore
import Derived.Deep.DeepHandedRow
import Derived.Deep.DeepWitnessRowRef
import Derived.Lib.LaidTab
import Derived.Stop.Joined
set_option linter.unusedVariables false
set_option linter.unusedSimpArgs false
set_option maxRecDepth 100000
namespace Go.Proofs.YtlapmdiabhlbmaaDoor.digestNamesLaw
open Go.ChangeShapes Go.WideShapes Go.ChangeAt Go.RowKit Go.PL
theorem own : ownKnob Tryd.prog.godebug = none := by kernel_rfl
theorem laidOut : laidOutB Tryd.prog = true := by kernel_rfl
theorem gRoots : Tryd.prog.globalNamed "gatepath/digest.roots" = some 0 := by kernel_rfl
theorem gRootsT : (Tryd.prog.globals[0]?).map (·.type) = some 47 := by kernel_rfl
theorem contract (H : Type) (enc : TypeId × Value → H) (W : World) (base : Nat) (args : Array Value) (ds gs : List (DataW H)) (before : List MemPlace)
    (hval0 : ∀ (j : Nat) t v, Tryd.f8.params[j]? = some t → args[j]? = some v → Value.okWide Tryd.prog W .any base t v)
    (hW : DataW.Whole enc Tryd.prog Tryd.f8.params.toList Rows.digestNamesSpec.vars false W args.toList ds gs before) (hL : laidMetH Tryd.prog Rows.digestNamesRow.laid W)
    : Calls Tryd.prog 8 args W fun e W' => ∃ v, e = .returned v ∧ Rows.digestNamesSpec.post enc Tryd.prog Tryd.f8 false true false false W args v W' := by
  have hval : ∀ (j : Nat) t v, Tryd.f8.params[j]? = some t → args[j]? = some v → Value.okWide Tryd.prog W .any base t v := hval0
  have hW' := hW
  obtain ⟨p, q, hA0, hV, rfl, hfz, hnd⟩ := hW
  have hA : DataW.TrodAll enc Tryd.prog W 0 (fun _ => true) true Tryd.f8.params.toList args.toList ds p := hA0
  rw [Tryd.params8] at hA hval
  obtain ⟨hargs, rfl, rfl⟩ := trodAll_nil hA
  obtain rfl : args = #[] := by cases args; simp_all
  obtain ⟨rfl, rfl⟩ := trodVars_none hV
  have hLm : laidMet Tryd.prog [("unicode/utf8.acceptRanges", Rows.laid_unicode_utf8_acceptRanges), ("bytes.ErrTooLarge", Rows.laid_bytes_ErrTooLarge), ("gatepath/digest.roots", Lib.tabData .u32 (rootsL.map fun x => (x.toNat : Int))), ("unicode/utf8.first", Rows.laid_unicode_utf8_first)] W := hL
  have hLt := hLm.tail.tail
  have hT := Lib.tabIs_of_head gRoots gRootsT Tryd.underlying47 Tryd.underlying46 zz3 zz3 (show laidMet Tryd.prog (("gatepath/digest.roots", Lib.tabData .u32 (rootsL.map fun x => (x.toNat : Int))) :: [("unicode/utf8.first", Rows.laid_unicode_utf8_first)]) W from hLt)
  have hGl : CellsAt W.cell? ⟨0, 0, none⟩ (v32s rootsL) := fun j v hj => by
    rw [add_lit, Nat.zero_add]
    have := World.var?_cell gRoots hT j
    rw [this]
    simpa [v32s] using hj
  have hG : Glb W := ⟨hGl, World.block_lt_of_cell? W _ (hGl 0 _ rfl)⟩
  clear hA0 hval0
  refine (lawNames W hG).mono fun e W' ⟨he, bel⟩ => ?_
  subst he
  exact ⟨_, rfl, _, _, _, [], _, [], hW', trodAll_mk1 (shut_bool Tryd.underlying4 _), trodAll_mk0, rfl, bel.frame _, fun h => by cases h⟩
def firstV : List Value := Pinned.utf8FirstZ.map fun n : Nat => Value.int .u8 (n : Int)
noncomputable def lw (os : Os) : World := { World.doorLaid Tryd.prog 400 os with heap := (World.doorLaid Tryd.prog 400 os).heap.setIfInBounds 3 (.cells firstV.toArray 105 (0, 0)) }
def wargs : Array Value := #[]
theorem laid_met (os : Os) : laidMetH Tryd.prog Rows.digestNamesRow.laid ((lw os).forCall (fun _ _ => 0) ⟨#[], wargs, []⟩).memory := laidMetH_of_parts3 (fuel := 8) (laidMet_of_run' 8 zz3 zz3) zz3 zz3
theorem reads (os : Os) {H : Type} (enc : TypeId × Value → H) : ∃ places, DataW.whole enc Tryd.prog ((lw os).forCall (fun _ _ => 0) ⟨#[], wargs, []⟩).memory Tryd.f8.params.toList Rows.digestNamesSpec.vars false wargs.toList 8 = some ([], [], places) := ⟨[], zz3⟩
theorem lifted (os : Os) (started : os.Started) (H : Type) (enc : TypeId × Value → H) (F : Stop.Interp) :
    ReturnsInHanded {} Tryd.checked os 8 .any ((OpenSpec.ofChange Rows.digestNamesSpec).preRow enc Tryd.prog Tryd.f8 Rows.digestNamesRow.domain false Rows.digestNamesRow.laid) (((OpenSpec.ofChange Rows.digestNamesSpec).at F).post enc Tryd.prog Tryd.f8 false true false false) := by
  obtain ⟨places, hx⟩ := reads os enc
  refine returnsInHanded_of_row (C := Tryd.checked) (s := (OpenSpec.ofChange Rows.digestNamesSpec)) own started zz3 Tryd.func8
    (witness_row_atRef (enc := enc) (C := Tryd.checked) false (lw os) wargs rfl zz3 zz3 zz3
      (OpenSpec.preRow_of_cond 8 hx zz3 (fun k hk => by cases hk) zz3 (laid_met os))) ?_
  intro W base args ds gs before hval hW _ hcond _ hL _ _
  exact contract H enc W base args ds gs before hval hW hL
theorem said : Rows.DigestNamesSaid :=
  OpenClaim.holds_of_cond 8 Tryd.f8 rfl rfl rfl rfl rfl rfl rfl ⟨rfl, rfl, rfl, rfl, rfl⟩ rfl rfl rfl rfl rfl zz3 Tryd.func8 zz3
    (of_decide_eq_true zz3) (by unfold Func.isWrapper; first | (rw [if_pos (by decide +kernel)]; kernel_rfl) | (rw [if_neg (by decide +kernel)]; exact ⟨rfl, rfl⟩))
    (fun os started H enc _ F => by rw [OpenClaim.pre_eq_preRow]; exact lifted os started H enc F)
theorem plain (f : FuncId) (fn : Func) (hf : Tryd.pinned.checked.prog.funcNamed "gatepath/gatepathlaw05.DigestNames" = some f) (hfn : Tryd.pinned.checked.prog.funcs[f]? = some fn) :
    false = Tryd.pinned.checked.prog.looks [] ∧ ∀ (j : Nat) t, fn.params[j]? = some t → Tryd.pinned.checked.prog.wantsStandIn t = false := by
  obtain rfl : f = 8 := Option.some.inj ((show Tryd.prog.funcNamed "gatepath/gatepathlaw05.DigestNames" = some 8 from zz3).symm.trans hf) |>.symm
  obtain rfl : fn = Tryd.f8 := (Option.some.inj (Tryd.func8.symm.trans hfn)).symm
  refine ⟨zz3, fun j t ht => ?_⟩
  rw [Tryd.params8] at ht
  have hm : t ∈ [] := by simpa using Array.mem_of_getElem? ht
  have hall : ([].all fun u => !Tryd.prog.wantsStandIn u) = true := by kernel_rfl
  exact (show Tryd.prog.wantsStandIn t = false by simpa using List.all_eq_true.1 hall t hm)
theorem card : Rows.DigestNamesCardSaid :=
  Claim7.holds_tied_plain_at .later [] _ _ _ _ said (fun _ h => by cases h) zz3 (fun _ h => by cases h) digestNames_row_tie rfl ⟨rfl, rfl⟩ zz3 rfl plain zz3
end Go.Proofs.YtlapmdiabhlbmaaDoor.digestNamesLaw
namespace Go.Proofs.YtlapmdiabhlbmaaDoor
theorem digestNames_holds : Rows.DigestNamesCardSaid := digestNamesLaw.card
end Go.Proofs.YtlapmdiabhlbmaaDoor
