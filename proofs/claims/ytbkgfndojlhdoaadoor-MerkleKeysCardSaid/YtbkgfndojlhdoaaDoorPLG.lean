/- Facts of many rows. -/
import Derived.Test.YtbkgfndojlhdoaaDoorPLF
namespace Go.PL
set_option linter.unusedVariables false
set_option linter.unusedSimpArgs false
open Go Go.RowKit
section
variable {P : Program} {n : Cx} {R : World → Prop} {L : Slots} {Q : Exit → Act → World → Prop}
variable {w0 w : World} {Ln : List Nat} {M : List Ent} {S : List Fact}
theorem Mem.imp {T : List Fact} (h : Mem w0 Ln M S w) (hi : ∀ r : Rd, (∀ s ∈ S, s.f r) → ∀ t ∈ T, t.f r) : Mem w0 Ln M T w :=
  ⟨h.os, h.tape, h.output, h.size, h.old, h.own, h.new, h.apart, fun t ht => hi _ h.facts t ht⟩
/-- Rows of arrays of sz bytes. -/
def rowsF (sz : Nat) (qs : List (Value × List (List UInt8))) : Fact := ⟨fun r => ∀ q ∈ qs, Seen r q.1 q.2.length sz (v8s q.2.flatten), fun _ _ hr h q hq => (h q hq).mono hr⟩
theorem Mem.rowsF {sz : Nat} {qs : List (Value × List (List UInt8))} (h : Mem w0 Ln M S w) (hs : Go.PL.rowsF sz qs ∈ S) {q : Value × List (List UInt8)} (hq : q ∈ qs) : Seen w.cell? q.1 q.2.length sz (v8s q.2.flatten) := h.fact hs q hq
theorem t_callPF {k : FuncId} {args : Array Operand} {at_ : Array TypeId} {vs : List Value} {ι : Type} {p : ι → Prop} {V : ι → Value} {E : ι → Ent} {T : ι → Fact}
    (hb : HasBody P k) (hv : evs L args.toList = some vs) (hc : ∀ w, Mem w0 Ln M S w → Calls P k vs.toArray w (GivesP w p V (fun x => [E x]) (fun x => [T x]))) :
    TOpP P Q n (Mem w0 Ln M S) L (.call { callee := .value (.func k), args := args, argTypes := at_ }) ι p V (fun x => Mem w0 Ln (E x :: M) (T x :: S)) := t_callP hb hv hc
end
end Go.PL
