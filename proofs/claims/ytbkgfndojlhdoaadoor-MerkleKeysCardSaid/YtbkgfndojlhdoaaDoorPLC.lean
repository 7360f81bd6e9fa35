/- Rows that are handed to a call and given back longer. -/
import Derived.Test.YtbkgfndojlhdoaaDoorPLW
namespace Go.PL
set_option linter.unusedVariables false
set_option linter.unusedSimpArgs false
open Go Go.RowKit
section
variable {P : Program} {n : Cx} {R : World → Prop} {L : Slots} {Q : Exit → Act → World → Prop}
variable {w0 w : World} {Ln : List Nat} {M : List Ent} {S : List Fact}
theorem Mem.lentR {w' : World} {M' : List Ent} {e e' : Ent} (h : Mem w0 Ln M S w) (hr : Repl M e e' M') (h2 : Mem w (nums [e]) [e'] [] w') : Mem w0 Ln M' S w' := by
  refine h.turn hr h2.os h2.tape h2.output h2.size (fun k hk hne => h2.old k hk ?_) (h2.own _ (List.mem_cons_self ..)) ?_
  · intro hm
    obtain ⟨x, hx, hn⟩ := mem_nums.1 hm
    rw [List.mem_singleton] at hx
    subst hx; exact hne hn
  · intro k hk
    rcases h2.new _ (List.mem_cons_self ..) k hk with h3 | h3
    · exact .inr h3
    · obtain ⟨x, hx, hn⟩ := mem_nums.1 h3
      rw [List.mem_singleton] at hx
      subst hx; exact .inl hn
def GivesR (w : World) (e0 : Ent) (m' : Nat) (e : TypeId) (sz : Nat) (ys : List Value) (en : Ending) (w' : World) : Prop :=
  ∃ v', SV v' m' ∧ en = .returned v' ∧ Mem w (nums [e0]) [.row v' m' e sz ys] [] w'
instance nop_givesR {fn : Func} {w : World} {e0 : Ent} {m' : Nat} {e : TypeId} {sz : Nat} {ys : List Value} : NoP (bodyPost P fn (GivesR w e0 m' e sz ys)) := nop_post fun c w' ⟨v, _, h, _⟩ => by cases h
theorem Mem.startR {e0 : Ent} (w : World) (h : e0.at w) : Mem w (nums [e0]) [e0] [] w := Mem.startL (Ms := [e0]) w (by intro e he; rw [List.mem_singleton] at he; subst he; exact h) (by simp)
theorem t_callR {k : FuncId} {args : Array Operand} {at_ : Array TypeId} {vs : List Value} {v : Value} {m m' : Nat} {e : TypeId} {sz : Nat} {xs ys : List Value} {f : Ent → List Ent} [hr : ReplV M v m e sz xs f] (hb : HasBody P k) (hv : evs L args.toList = some vs)
    (hc : ∀ w, Mem w0 Ln M S w → (Ent.row v m e sz xs).at w → Calls P k vs.toArray w (GivesR w (.row v m e sz xs) m' e sz ys)) :
    TOpP P Q n (Mem w0 Ln M S) L (.call { callee := .value (.func k), args := args, argTypes := at_ }) Value (fun v' => SV v' m') (fun v' => v') (fun v' => Mem w0 Ln (f (.row v' m' e sz ys)) S) := by
  have h : TOp P Q n (Mem w0 Ln M S) L (.call { callee := .value (.func k), args := args, argTypes := at_ }) { v' : Value // SV v' m' } (fun v' => v'.1) (fun v' => Mem w0 Ln (f (.row v'.1 m' e sz ys)) S) :=
    t_callG (cap := #[]) rfl hb hv fun w hm => by
      simp only [Array.append_empty]
      refine (hc w hm (hm.own _ (hr.out (.row v m e sz xs)).mem)).mono ?_
      rintro en w' ⟨v', hs, rfl, h2⟩
      exact ⟨⟨v', hs⟩, rfl, hm.lentR (hr.out _) h2⟩
  exact h.rep fun v' w h => ⟨v'.1, v'.2, rfl, h⟩
theorem t_callR0 {k : FuncId} {args : Array Operand} {at_ : Array TypeId} {vs : List Value} {m' : Nat} (e : TypeId) (sz : Nat) {ys : List Value} (hb : HasBody P k) (hv : evs L args.toList = some vs)
    (hc : ∀ w, Mem w0 Ln M S w → (Ent.row (.slice none 0 0) 0 e sz []).at w → Calls P k vs.toArray w (GivesR w (.row (.slice none 0 0) 0 e sz []) m' e sz ys)) :
    TOpP P Q n (Mem w0 Ln M S) L (.call { callee := .value (.func k), args := args, argTypes := at_ }) Value (fun v' => SV v' m') (fun v' => v') (fun v' => Mem w0 Ln (.row v' m' e sz ys :: M) S) := by
  have h : TOp P Q n (Mem w0 Ln M S) L (.call { callee := .value (.func k), args := args, argTypes := at_ }) { v' : Value // SV v' m' } (fun v' => v'.1) (fun v' => Mem w0 Ln (.row v'.1 m' e sz ys :: M) S) :=
    t_callG (cap := #[]) rfl hb hv fun w hm => by
      simp only [Array.append_empty]
      refine (hc w hm (World.ownsRow_nil w 0 e sz)).mono ?_
      rintro en w' ⟨v', hs, rfl, h2⟩
      exact ⟨⟨v', hs⟩, rfl, (hm.nilRow e sz).lentR .here h2⟩
  exact h.rep fun v' w h => ⟨v'.1, v'.2, rfl, h⟩
theorem Mem.swap {a b : Ent} (h : Mem w0 Ln (a :: b :: M) S w) : Mem w0 Ln (b :: a :: M) S w := by
  have hm : ∀ e, e ∈ b :: a :: M → e ∈ a :: b :: M := fun e he => by
    simp only [List.mem_cons] at he ⊢
    rcases he with h | h | h
    · exact .inr (.inl h)
    · exact .inl h
    · exact .inr (.inr h)
  refine ⟨h.os, h.tape, h.output, h.size, h.old, fun e he => h.own e (hm e he), fun e he => h.new e (hm e he), ?_, fun s hs => s.mono _ _ (fun x v hv => ?_) (h.facts s hs)⟩
  · have := h.apart
    simp only [List.pairwise_cons, List.mem_cons] at this ⊢
    obtain ⟨h1, h2, h3⟩ := this
    refine ⟨fun x hx => ?_, fun x hx => h1 x (.inr hx), h3⟩
    rcases hx with rfl | hx
    · intro k hk hk2; exact h1 b (.inl rfl) k hk2 hk
    · exact h2 x hx
  · simp only [rdF] at hv ⊢
    have e : inM (b :: a :: M) x.block = inM (a :: b :: M) x.block := by simp [inM, Bool.or_left_comm]
    rw [e]; exact hv
end
end Go.PL
