/- Calls that may let a panic out. -/
import Derived.Test.YtommkigkkeailaaOAE
namespace Go.Proofs.Ytommkigkkeailaa
set_option linter.unusedSimpArgs false
set_option linter.unusedVariables false
open Go Go.PL Go.RowKit

/-- What a reader panics with. -/
def chainX : List PanicEntry := [{ v := (Value.iface 81 (.agg #[])), recovered := false }]
/-- A function that ends well, or lets the panic out if `bad`. -/
def GivesX {ι : Type} (w : World) (M1 : List Ent) (p : ι → Prop) (V : ι → Value) (N : ι → List Ent) (bad : Prop) (e : Ending) (w' : World) : Prop :=
  (∃ x, p x ∧ e = .returned (V x) ∧ Mem w (nums M1) (N x) [] w') ∨ (bad ∧ e = .panicked chainX ∧ Mem w (nums M1) [] [] w')
class OutX (Q : Exit → Act → World → Prop) (ds : List Deferred) (w0 : World) (Ln : List Nat) (bad : outParam Prop) : Prop where
  out : ∀ a w, a.defers = ds → bad → Mem w0 Ln [] [] w → Q (.panic chainX) a w
section
variable {P : Program} {n : Cx} {R : World → Prop} {L : Slots} {Q : Exit → Act → World → Prop} {w0 : World} {Ln : List Nat} {M : List Ent} {S : List Fact} {bad bad1 : Prop} {ops : Array Oper} {rest : List Oper}
instance outX_then {K : Act → World → Prop} {ds : List Deferred} [h : OutX Q ds w0 Ln bad] : OutX (Exit.then K Q) ds w0 Ln bad := ⟨fun a w e hb hm => h.out a w e hb hm⟩
instance outX_block {id : Nat} {ds : List Deferred} [h : OutX Q ds w0 Ln bad] : OutX (Exit.inBlock id Q) ds w0 Ln bad := ⟨fun a w e hb hm => h.out a w e hb hm⟩
instance outX_body {fn : Func} {ι : Type} {M1 : List Ent} {p : ι → Prop} {V : ι → Value} {N : ι → List Ent} : OutX (bodyPost P fn (GivesX w0 M1 p V N bad)) [] w0 (nums M1) bad := ⟨fun a w e hb hm => ⟨e, .inr ⟨hb, rfl, hm⟩⟩⟩
theorem t_callX {k : FuncId} {args : Array Operand} {at_ : Array TypeId} {vs : List Value} {ι : Type} {p : ι → Prop} {V : ι → Value} {N : ι → List Ent} (M1 X A : List Ent) (Z : ι → List Ent) (hA : M1 ++ X = A) [hM : SelC A M] (hZ : ∀ x, p x → (N x ++ X).Perm (Z x)) (hb : HasBody P k) (hv : evs L args.toList = some vs)
    (hc : ∀ w, Mem w0 Ln M S w → Mem w (nums M1) M1 [] w → Calls P k vs.toArray w (GivesX w M1 p V N bad1)) [hO : OutX Q n.ds w0 Ln bad] (hbad : bad1 → bad) :
    TOpP P Q n (Mem w0 Ln M S) L (.call { callee := .value (.func k), args := args, argTypes := at_ }) ι p V (fun x => Mem w0 Ln (Z x) S) := by
  have h : TOp P Q n (Mem w0 Ln M S) L (.call { callee := .value (.func k), args := args, argTypes := at_ }) { x : ι // p x } (fun x => V x.1) (fun x => Mem w0 Ln (Z x.1) S) := by
    intro d ty pos af g a w K hs hm0 hk
    subst hA
    have hm := hm0.selP hM.h
    have hargs : args.map a.eval = vs.toArray := by
      have e : (args.map a.eval).toList = vs := by rw [Array.toList_map]; exact evs_eval hs hv
      rw [← e]
    have hrun : (execOp a.eval ⟨d, .call { callee := .value (.func k), args := args, argTypes := at_ }, ty, pos, af, g⟩).run P w = .ok (.enter k vs.toArray) w := by
      have hf : ev L (.func k) = some (.func (.func k) #[] #[]) := rfl
      simp only [execOp, resolve, hs.eval hf, hargs]
      simp [Deferred.ofValue, invoke, run_callFunc hb]
    unfold Oper.wp
    rw [hrun]
    refine (hc w hm0 (Mem.startL w (fun e he => hm.own e (List.mem_append_left _ he)) (List.pairwise_append.1 hm.apart).1)).mono ?_
    rintro e w' (⟨x, hp, rfl, h⟩ | ⟨hb1, rfl, h⟩)
    · exact hk ⟨x, hp⟩ w' ((((hm.perm List.perm_append_comm).framedS h).perm List.perm_append_comm).perm (hZ x hp))
    · exact hO.out a w' hs.defers (hbad hb1) (((hm.perm List.perm_append_comm).framedS h).sub .nil .nil)
  exact h.rep fun x w h => ⟨x.1, x.2, rfl, h⟩
/-- panic(x): it is let out. -/
theorem wpl_panicX {x : Operand} {ty : TypeId} {pos : String} {af : Array Edge} (hx : ev L x = some (Value.iface 81 (.agg #[]))) [hO : OutX Q n.ds w0 Ln bad] (hb : bad) : WPL P ops Q n (Mem w0 Ln M S) L (⟨none, .panic x, ty, pos, af, none⟩ :: rest) := by
  intro a w hs hr
  unfold wpList
  simp only [Region.wanted, if_true]
  have hrun : (execOp a.eval ⟨none, .panic x, ty, pos, af, none⟩).run P w = .halt (.panic (Value.iface 81 (.agg #[]))) w := by
    simp only [execOp, hs.eval hx]
    simp [Instr.panic, Sem.run_bind, Result.andThen]
  unfold Oper.wp
  rw [hrun]
  exact .inl (hO.out a w hs.defers hb (hr.sub .nil .nil))
end

end Go.Proofs.Ytommkigkkeailaa
