/- Calls of function values that turn two blocks of the caller's. -/
import Derived.Test.YtbkgfndojlhdoaaDoorPLU
namespace Go.PL
set_option linter.unusedVariables false
set_option linter.unusedSimpArgs false
open Go Go.RowKit
section
variable {P : Program} {n : Cx} {R : World → Prop} {L : Slots} {Q : Exit → Act → World → Prop}
variable {w0 w : World} {Ln : List Nat} {M : List Ent} {S : List Fact}
theorem Mem.lent2 {w' : World} {M1 M2 : List Ent} {b1 b2 : Nat} {t1 t2 : TypeId} {c1 c2 c1' c2' : List Value} (h : Mem w0 Ln M S w) (hr1 : Repl M (.blk b1 t1 c1) (.blk b1 t1 c1') M1) (hr2 : Repl M1 (.blk b2 t2 c2) (.blk b2 t2 c2') M2)
    (h2 : Mem w [b1, b2] [.blk b1 t1 c1', .blk b2 t2 c2'] [] w') : Mem w0 Ln M2 S w' := by
  have hne : b1 ≠ b2 := by
    have := h2.apart
    simp only [List.pairwise_cons, List.mem_cons, List.not_mem_nil, or_false, forall_eq] at this
    have := this.1 b1 rfl
    intro e; subst e; exact this rfl
  have hlt : b1 < w.heap.size := Ent.lt (h.own _ hr1.mem) rfl
  let wm : World := { w with heap := w.heap.setIfInBounds b1 (.cells c1'.toArray t1 (0, 0)) }
  have g1 : wm.heap[b1]? = some (.cells c1'.toArray t1 (0, 0)) := by simp [wm, hlt]
  have g2 : ∀ k, k ≠ b1 → wm.heap[k]? = w.heap[k]? := fun k hk => by simp [wm, Array.getElem?_setIfInBounds, Ne.symm hk]
  have gs : wm.heap.size = w.heap.size := by simp [wm]
  have hm : Mem w0 Ln M1 S wm := h.turn hr1 rfl rfl rfl (Nat.le_of_eq gs.symm) (fun k hk hn => g2 k (fun e => hn (by simp [Ent.num, e]))) g1 (fun k hk => .inl hk)
  refine hm.turn hr2 h2.os h2.tape h2.output (by rw [gs]; exact h2.size) (fun k hk hn => ?_) (h2.own _ (by simp)) (fun k hk => .inl hk)
  by_cases e : k = b1
  · subst e; rw [g1]; exact h2.own _ (List.mem_cons_self ..)
  · rw [g2 k e]
    refine h2.old k (by rwa [gs] at hk) ?_
    simp only [List.mem_cons, List.not_mem_nil, or_false, not_or]
    exact ⟨e, fun e2 => hn (by simp [Ent.num, e2])⟩
/-- A function value that turns two blocks. -/
theorem t_turnV2 {f : Operand} {k : FuncId} {args : Array Operand} {at_ : Array TypeId} {cap : Array Value} {vs : List Value} {v : Value} (b1 b2 : Nat) {t1 t2 : TypeId} {c1 c2 : List Value} (c1' c2' : List Value) {f1 f2 : List Value → List Ent}
    [hr1 : ReplB M b1 t1 c1 f1] [hB : HasB M b2 t2 c2] [hr2 : ReplB (f1 c1') b2 t2 c2 f2] (ht : t1 ≠ t2) (hf : ev L f = some (.func (.func k) #[] cap)) (hb : HasBody P k) (hv : evs L args.toList = some vs)
    (hc : ∀ w, Mem w0 Ln M S w → w.heap[b1]? = some (.cells c1.toArray t1 (0, 0)) → w.heap[b2]? = some (.cells c2.toArray t2 (0, 0)) → b1 ≠ b2 → Calls P k (vs.toArray ++ cap) w (GivesL w [b1, b2] (fun _ : Unit => v) fun _ => [.blk b1 t1 c1', .blk b2 t2 c2'])) :
    TOp P Q n (Mem w0 Ln M S) L (.call { callee := .value f, args := args, argTypes := at_ }) Unit (fun _ => v) (fun _ => Mem w0 Ln (f2 c2') S) :=
  t_callG hf hb hv fun w hm => by
    have h1 := hm.own _ (hr1.out c1).mem
    have h2 := hm.own _ hB.out
    have hne : b1 ≠ b2 := fun e => by
      subst e
      have := (show w.heap[b1]? = some (.cells c1.toArray t1 (0, 0)) from h1).symm.trans h2
      simp at this
      exact ht this.2
    refine (hc w hm h1 h2 hne).mono ?_
    rintro e w' ⟨_, rfl, h3⟩
    exact ⟨(), rfl, hm.lent2 (hr1.out c1') (hr2.out c2') h3⟩
theorem Mem.start2 {b1 b2 : Nat} {t1 t2 : TypeId} {c1 c2 : List Value} (w : World) (h1 : w.heap[b1]? = some (.cells c1.toArray t1 (0, 0))) (h2 : w.heap[b2]? = some (.cells c2.toArray t2 (0, 0))) (hne : b1 ≠ b2) : Mem w [b1, b2] [.blk b1 t1 c1, .blk b2 t2 c2] [] w :=
  Mem.startL (Ms := [.blk b1 t1 c1, .blk b2 t2 c2]) w (by intro e he; simp at he; rcases he with rfl | rfl; exact h1; exact h2) (by simp [Ent.num]; exact fun e => hne e.symm)
end
end Go.PL
