/- The statement DigestLengths: for every input the law returns true, and each argument reads as it did. -/
import Derived.Test.YtlapmdiabhlbmaaDoorCards
import Derived.Test.YtlapmdiabhlbmaaDoorTie
import Derived.Test.YtlapmdiabhlbmaaDoorPLU
import Derived.Test.YtlapmdiabhlbmaaDoorBF
import Derived.WalkKit
import Derived.ProofKit
import Derived.OpenShut
import Derived.ChangeOld
import Derived.Below
import Derived.Carry
import Derived.LaidMore
import Derived.Deep.DeepHandedRow
import Derived.Deep.DeepWitnessRowRef
import Derived.Lib.LaidTab
import Derived.Stop.Joined
namespace Go.Proofs.YtlapmdiabhlbmaaDoor.digestLengthsLaw
open Go.ChangeShapes Go.WideShapes Go.ChangeAt Go.RowKit Go.PL
set_option linter.unusedVariables false
set_option linter.unusedSimpArgs false
theorem own : ownKnob Tryd.prog.godebug = none := by kernel_rfl
theorem laidOut : laidOutB Tryd.prog = true := by kernel_rfl

theorem gRoots : Tryd.prog.globalNamed "gatepath/digest.roots" = some 0 := by kernel_rfl
theorem gRootsT : (Tryd.prog.globals[0]?).map (·.type) = some 47 := by kernel_rfl

set_option maxRecDepth 100000 in
theorem contract (H : Type) (enc : TypeId × Value → H) (W : World) (base : Nat) (args : Array Value) (ds gs : List (DataW H)) (before : List MemPlace)
    (hval0 : ∀ (j : Nat) t v, Tryd.f5.params[j]? = some t → args[j]? = some v → Value.okWide Tryd.prog W .any base t v)
    (hW : DataW.Whole enc Tryd.prog Tryd.f5.params.toList Rows.digestLengthsSpec.vars false W args.toList ds gs before) (hL : laidMetH Tryd.prog Rows.digestLengthsRow.laid W)
    : Calls Tryd.prog 5 args W fun e W' => ∃ v, e = .returned v ∧ Rows.digestLengthsSpec.post enc Tryd.prog Tryd.f5 false true false false W args v W' := by
  have hval : ∀ (j : Nat) t v, Tryd.f5.params[j]? = some t → args[j]? = some v → Value.okWide Tryd.prog W .any base t v := hval0
  have hW' := hW
  obtain ⟨p, q, hA0, hV, rfl, hfz, hnd⟩ := hW
  have hA : DataW.TrodAll enc Tryd.prog W 0 (fun _ => true) true Tryd.f5.params.toList args.toList ds p := hA0
  rw [Tryd.params5] at hA hval
  obtain ⟨v0, vs0, d0, ds0, p0, q0, hargs, rfl, rfl, h0, r0⟩ := trodAll_cons hA
  obtain ⟨rfl, rfl, rfl⟩ := trodAll_nil r0
  obtain rfl : args = #[v0] := by cases args; simp_all
  obtain ⟨rfl, rfl⟩ := trodVars_none hV
  have k0 := h0
  have lt0 : ∀ x ∈ p0, x.block < W.heap.size := by obtain ⟨m, hm⟩ := k0; exact DataW.trod_lt m _ _ _ hm
  obtain ⟨⟨x0, xs0⟩, e0, s0, l0⟩ := arg_one (opens_u8s Tryd.underlying22 Tryd.underlying5 (by kernel_rfl)) h0
  try dsimp only at e0 s0 l0
  obtain rfl := arg_of Tryd.underlying22 rfl (hval 0 22 v0 rfl rfl) e0
  have hLe : Rows.digestLengthsRow.laid = ("gatepath/digest.roots", Lib.tabData .u32 (rootsL.map fun x => (x.toNat : Int))) :: [] := by kernel_rfl
  have hL2 : laidMetH Tryd.prog (("gatepath/digest.roots", Lib.tabData .u32 (rootsL.map fun x => (x.toNat : Int))) :: []) W := hLe ▸ hL
  have hT := Lib.tabIs_of_head gRoots gRootsT Tryd.underlying47 Tryd.underlying46 (by kernel_rfl) (by kernel_rfl) hL2
  have hGl : CellsAt W.cell? ⟨0, 0, none⟩ (v32s rootsL) := fun j v hj => by
    rw [add_lit, Nat.zero_add]
    have := World.var?_cell gRoots hT j
    rw [this]
    simpa [v32s] using hj
  have hG : Glb W := ⟨hGl, World.block_lt_of_cell? W _ (hGl 0 _ rfl)⟩
  clear hA0 hval0
  refine (lawLengths v0 xs0 W s0 hG).mono fun e W' ⟨he, bel⟩ => ?_
  subst he
  exact ⟨_, rfl, _, _, _, [], _, [], hW', trodAll_mk1 (shut_bool Tryd.underlying4 _), (trodAll_cons_mk (Below.trod laidOut (by kernel_rfl) (of_decide_eq_true (by kernel_rfl)) k0 bel lt0) trodAll_mk0), rfl, bel.frame _, fun h => by cases h⟩
noncomputable def lw (os : Os) : World := World.doorLaid Tryd.prog 400 os
def wargs : Array Value := #[.slice none 0 0]
theorem laid_met (os : Os) : laidMetH Tryd.prog Rows.digestLengthsRow.laid ((lw os).forCall (fun _ _ => 0) ⟨#[], wargs, []⟩).memory := laidMetH_of_parts3 (fuel := 8) (laidMet_of_run' 8 (by kernel_rfl) (by kernel_rfl)) (by kernel_rfl) (by kernel_rfl)
theorem reads (os : Os) {H : Type} (enc : TypeId × Value → H) : ∃ places, DataW.whole enc Tryd.prog ((lw os).forCall (fun _ _ => 0) ⟨#[], wargs, []⟩).memory Tryd.f5.params.toList Rows.digestLengthsSpec.vars false wargs.toList 8 = some ([.nil], [], places) := ⟨[], by kernel_rfl⟩
set_option maxRecDepth 100000 in
theorem lifted (os : Os) (started : os.Started) (H : Type) (enc : TypeId × Value → H) (F : Stop.Interp) :
    ReturnsInHanded {} Tryd.checked os 5 .any ((OpenSpec.ofChange Rows.digestLengthsSpec).preRow enc Tryd.prog Tryd.f5 Rows.digestLengthsRow.domain false Rows.digestLengthsRow.laid) (((OpenSpec.ofChange Rows.digestLengthsSpec).at F).post enc Tryd.prog Tryd.f5 false true false false) := by
  obtain ⟨places, hx⟩ := reads os enc
  refine returnsInHanded_of_row (C := Tryd.checked) (s := (OpenSpec.ofChange Rows.digestLengthsSpec)) own started (by kernel_rfl) Tryd.func5
    (witness_row_atRef (enc := enc) (C := Tryd.checked) false (lw os) wargs rfl (by kernel_rfl) (by kernel_rfl) (by kernel_rfl)
      (OpenSpec.preRow_of_cond 8 hx (by kernel_rfl) (fun k hk => by cases hk) (by kernel_rfl) (laid_met os))) ?_
  intro W base args ds gs before hval hW _ hcond _ hL _ _
  exact contract H enc W base args ds gs before hval hW hL
theorem said : Rows.DigestLengthsSaid :=
  OpenClaim.holds_of_cond 5 Tryd.f5 rfl rfl rfl rfl rfl rfl rfl ⟨rfl, rfl, rfl, rfl, rfl⟩ rfl rfl rfl rfl rfl (by kernel_rfl) Tryd.func5 (by kernel_rfl)
    (of_decide_eq_true (by kernel_rfl)) (by unfold Func.isWrapper; first | (rw [if_pos (by decide +kernel)]; kernel_rfl) | (rw [if_neg (by decide +kernel)]; exact ⟨rfl, rfl⟩))
    (fun os started H enc _ F => by rw [OpenClaim.pre_eq_preRow]; exact lifted os started H enc F)
theorem plain (f : FuncId) (fn : Func) (hf : Tryd.pinned.checked.prog.funcNamed "gatepath/gatepathlaw05.DigestLengths" = some f) (hfn : Tryd.pinned.checked.prog.funcs[f]? = some fn) :
    false = Tryd.pinned.checked.prog.looks [] ∧ ∀ (j : Nat) t, fn.params[j]? = some t → Tryd.pinned.checked.prog.wantsStandIn t = false := by
  obtain rfl : f = 5 := Option.some.inj ((show Tryd.prog.funcNamed "gatepath/gatepathlaw05.DigestLengths" = some 5 by kernel_rfl).symm.trans hf) |>.symm
  obtain rfl : fn = Tryd.f5 := (Option.some.inj (Tryd.func5.symm.trans hfn)).symm
  refine ⟨by kernel_rfl, fun j t ht => ?_⟩
  rw [Tryd.params5] at ht
  have hm : t ∈ [22] := by simpa using Array.mem_of_getElem? ht
  have hall : ([22].all fun u => !Tryd.prog.wantsStandIn u) = true := by kernel_rfl
  exact (show Tryd.prog.wantsStandIn t = false by simpa using List.all_eq_true.1 hall t hm)
theorem card : Rows.DigestLengthsCardSaid :=
  Claim7.holds_tied_plain_at .later [] _ _ _ _ said (fun _ h => by cases h) (by kernel_rfl) (fun _ h => by cases h) digestLengths_row_tie rfl ⟨rfl, rfl⟩ (by kernel_rfl) rfl plain (by kernel_rfl)
end Go.Proofs.YtlapmdiabhlbmaaDoor.digestLengthsLaw
namespace Go.Proofs.YtlapmdiabhlbmaaDoor
theorem digestLengths_holds : Rows.DigestLengthsCardSaid := digestLengthsLaw.card
end Go.Proofs.YtlapmdiabhlbmaaDoor
