/- The statement DigestTexts: for every input the law returns true, and each argument reads as it did. -/
import Derived.Test.YtlapmdiabhlbmaaDoorCards
import Derived.Test.YtlapmdiabhlbmaaDoorTie
import Derived.Test.YtlapmdiabhlbmaaDoorMSPLN
import Derived.Test.YtlapmdiabhlbmaaDoorMS2
import Derived.Stop.LaidErr
import Derived.WalkKit
import Derived.ProofKit
import Derived.OpenShut
import Derived.ChangeOld
import Derived.Below
import Derived.Carry
import Derived.LaidMore
import Derived.Deep.DeepHandedRow
import Derived.Deep.DeepWitnessRowRef
import Derived.Lib.LaidTab
import Derived.Stop.Joined
set_option linter.unusedVariables false
set_option linter.unusedSimpArgs false
set_option maxRecDepth 100000
namespace Go.Proofs.YtlapmdiabhlbmaaDoor.digestTextsLaw
open Go.ChangeShapes Go.WideShapes Go.ChangeAt Go.RowKit Go.PL
theorem own : ownKnob Tryd.prog.godebug = none := by kernel_rfl
theorem laidOut : laidOutB Tryd.prog = true := by kernel_rfl
theorem contract (H : Type) (enc : TypeId × Value → H) (W : World) (base : Nat) (args : Array Value) (ds gs : List (DataW H)) (before : List MemPlace)
    (hval0 : ∀ (j : Nat) t v, Tryd.f7.params[j]? = some t → args[j]? = some v → Value.okWide Tryd.prog W .any base t v)
    (hW : DataW.Whole enc Tryd.prog Tryd.f7.params.toList Rows.digestTextsSpec.vars false W args.toList ds gs before) (hL : laidMetH Tryd.prog Rows.digestTextsRow.laid W)
    : Calls Tryd.prog 7 args W fun e W' => ∃ v, e = .returned v ∧ Rows.digestTextsSpec.post enc Tryd.prog Tryd.f7 false true false false W args v W' := by
  have hval : ∀ (j : Nat) t v, Tryd.f7.params[j]? = some t → args[j]? = some v → Value.okWide Tryd.prog W .any base t v := hval0
  have hW' := hW
  obtain ⟨p, q, hA0, hV, rfl, hfz, hnd⟩ := hW
  have hA : DataW.TrodAll enc Tryd.prog W 0 (fun _ => true) true Tryd.f7.params.toList args.toList ds p := hA0
  rw [Tryd.params7] at hA hval
  obtain ⟨v0, vs0, d0, ds0, p0, q0, hargs, rfl, rfl, h0, r0⟩ := trodAll_cons hA
  obtain ⟨v1, vs1, d1, ds1, p1, q1, rfl, rfl, rfl, h1, r1⟩ := trodAll_cons r0
  obtain ⟨rfl, rfl, rfl⟩ := trodAll_nil r1
  obtain rfl : args = #[v0, v1] := by cases args; simp_all
  obtain ⟨rfl, rfl⟩ := trodVars_none hV
  have k0 := h0
  have lt0 : ∀ x ∈ p0, x.block < W.heap.size := by obtain ⟨m, hm⟩ := k0; exact DataW.trod_lt m _ _ _ hm
  obtain ⟨⟨x0, xs0⟩, e0, s0, l0⟩ := arg_one (opens_u8s Tryd.underlying22 Tryd.underlying5 zz3) h0
  try dsimp only at e0 s0 l0
  obtain rfl := arg_of Tryd.underlying22 rfl (hval 0 22 v0 rfl rfl) e0
  have k1 := h1
  have lt1 : ∀ x ∈ p1, x.block < W.heap.size := by obtain ⟨m, hm⟩ := k1; exact DataW.trod_lt m _ _ _ hm
  obtain ⟨xs1, e1, l1, dd1⟩ := arg_one (opens_str Tryd.underlying9) h1
  try dsimp only at e1 l1
  obtain rfl := arg_of Tryd.underlying9 rfl (hval 1 9 v1 rfl rfl) e1
  clear hA0 hval0
  refine (lawTexts v0 xs0 xs1 W s0 l1).mono fun e W' ⟨he, bel⟩ => ?_
  subst he
  exact ⟨_, rfl, _, _, _, [], _, [], hW', trodAll_mk1 (shut_bool Tryd.underlying4 _), (trodAll_cons_mk (Below.trod laidOut zz3 (of_decide_eq_true zz3) k0 bel lt0) (trodAll_cons_mk (Below.trod laidOut zz3 (of_decide_eq_true zz3) k1 bel lt1) trodAll_mk0)), rfl, bel.frame _, fun h => by cases h⟩
def firstV : List Value := Pinned.utf8FirstZ.map fun n : Nat => Value.int .u8 (n : Int)
noncomputable def lw (os : Os) : World := { World.doorLaid Tryd.prog 400 os with heap := (World.doorLaid Tryd.prog 400 os).heap.setIfInBounds 3 (.cells firstV.toArray 105 (0, 0)) }
def wargs : Array Value := #[.slice none 0 0, .string ⟨#[]⟩]
theorem laid_met (os : Os) : laidMetH Tryd.prog Rows.digestTextsRow.laid ((lw os).forCall (fun _ _ => 0) ⟨#[], wargs, []⟩).memory := laidMetH_of_parts3 (fuel := 8) (laidMet_of_run' 8 zz3 zz3) zz3 zz3
theorem reads (os : Os) {H : Type} (enc : TypeId × Value → H) : ∃ places, DataW.whole enc Tryd.prog ((lw os).forCall (fun _ _ => 0) ⟨#[], wargs, []⟩).memory Tryd.f7.params.toList Rows.digestTextsSpec.vars false wargs.toList 8 = some ([.nil, .lit (.string [])], [], places) := ⟨[], zz3⟩
theorem lifted (os : Os) (started : os.Started) (H : Type) (enc : TypeId × Value → H) (F : Stop.Interp) :
    ReturnsInHanded {} Tryd.checked os 7 .any ((OpenSpec.ofChange Rows.digestTextsSpec).preRow enc Tryd.prog Tryd.f7 Rows.digestTextsRow.domain false Rows.digestTextsRow.laid) (((OpenSpec.ofChange Rows.digestTextsSpec).at F).post enc Tryd.prog Tryd.f7 false true false false) := by
  obtain ⟨places, hx⟩ := reads os enc
  refine returnsInHanded_of_row (C := Tryd.checked) (s := (OpenSpec.ofChange Rows.digestTextsSpec)) own started zz3 Tryd.func7
    (witness_row_atRef (enc := enc) (C := Tryd.checked) false (lw os) wargs rfl zz3 zz3 zz3
      (OpenSpec.preRow_of_cond 8 hx zz3 (fun k hk => by cases hk) zz3 (laid_met os))) ?_
  intro W base args ds gs before hval hW _ hcond _ hL _ _
  exact contract H enc W base args ds gs before hval hW hL
theorem said : Rows.DigestTextsSaid :=
  OpenClaim.holds_of_cond 7 Tryd.f7 rfl rfl rfl rfl rfl rfl rfl ⟨rfl, rfl, rfl, rfl, rfl⟩ rfl rfl rfl rfl rfl zz3 Tryd.func7 zz3
    (of_decide_eq_true zz3) (by unfold Func.isWrapper; first | (rw [if_pos (by decide +kernel)]; kernel_rfl) | (rw [if_neg (by decide +kernel)]; exact ⟨rfl, rfl⟩))
    (fun os started H enc _ F => by rw [OpenClaim.pre_eq_preRow]; exact lifted os started H enc F)
theorem plain (f : FuncId) (fn : Func) (hf : Tryd.pinned.checked.prog.funcNamed "gatepath/gatepathlaw05.DigestTexts" = some f) (hfn : Tryd.pinned.checked.prog.funcs[f]? = some fn) :
    false = Tryd.pinned.checked.prog.looks [] ∧ ∀ (j : Nat) t, fn.params[j]? = some t → Tryd.pinned.checked.prog.wantsStandIn t = false := by
  obtain rfl : f = 7 := Option.some.inj ((show Tryd.prog.funcNamed "gatepath/gatepathlaw05.DigestTexts" = some 7 from zz3).symm.trans hf) |>.symm
  obtain rfl : fn = Tryd.f7 := (Option.some.inj (Tryd.func7.symm.trans hfn)).symm
  refine ⟨zz3, fun j t ht => ?_⟩
  rw [Tryd.params7] at ht
  have hm : t ∈ [22, 9] := by simpa using Array.mem_of_getElem? ht
  have hall : ([22, 9].all fun u => !Tryd.prog.wantsStandIn u) = true := by kernel_rfl
  exact (show Tryd.prog.wantsStandIn t = false by simpa using List.all_eq_true.1 hall t hm)
theorem card : Rows.DigestTextsCardSaid :=
  Claim7.holds_tied_plain_at .later [] _ _ _ _ said (fun _ h => by cases h) zz3 (fun _ h => by cases h) digestTexts_row_tie rfl ⟨rfl, rfl⟩ zz3 rfl plain zz3
end Go.Proofs.YtlapmdiabhlbmaaDoor.digestTextsLaw
namespace Go.Proofs.YtlapmdiabhlbmaaDoor
theorem digestTexts_holds : Rows.DigestTextsCardSaid := digestTextsLaw.card
end Go.Proofs.YtlapmdiabhlbmaaDoor
