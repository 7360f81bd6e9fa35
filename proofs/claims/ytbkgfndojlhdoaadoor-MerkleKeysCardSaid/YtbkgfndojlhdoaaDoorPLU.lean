/- Regions where several operations that act are ready together: each order is walked. -/
import Derived.Test.YtbkgfndojlhdoaaDoorPLZ
namespace Go.PL
set_option linter.unusedVariables false
open Go Go.RowKit
section
variable {P : Program} {ops : Array Oper} {Q : Exit → Act → World → Prop} {R0 : World → Prop}
variable {n : Cx} {R : World → Prop} {L : Slots} {k fuel : Nat} {listed : Array Bool}
variable {op : Op} {d : Nat} {ty : TypeId} {pos : String} {af : Array Edge} {g : Option (Nat × Bool)}
/-- Operation i is the one that comes up. -/
def WPDA (P : Program) (ops : Array Oper) (Q : Exit → Act → World → Prop) (n : Cx) (k : Nat) (R0 R : World → Prop) (L : Slots) (fuel : Nat) (listed : Array Bool) (i : Nat) : Prop :=
  ∀ a w, Sl n a L → R w → wpOp P ops Q i (fun a' w' => SK k R0 (listed.setIfInBounds i true) w' ∧ wpAnyI P .any ops Q (SK k R0) fuel (listed.setIfInBounds i true) a' w') a w
theorem wpd_two (i j : Nat) (hr : Region.ready .any ops listed = [i, j]) (h1 : WPDA P ops Q n k R0 R L fuel listed i) (h2 : WPDA P ops Q n k R0 R L fuel listed j) : WPD P ops Q n k R0 R L (fuel + 1) listed := by
  intro a w hs hw
  refine ⟨fun h0 => absurd (hr.symm.trans h0) (by simp), fun m hm => ?_⟩
  rw [hr] at hm
  simp only [List.mem_cons, List.not_mem_nil, or_false] at hm
  rcases hm with rfl | rfl
  · exact h1 a w hs hw
  · exact h2 a w hs hw
theorem wpd_three (i j l : Nat) (hr : Region.ready .any ops listed = [i, j, l]) (h1 : WPDA P ops Q n k R0 R L fuel listed i) (h2 : WPDA P ops Q n k R0 R L fuel listed j) (h3 : WPDA P ops Q n k R0 R L fuel listed l) : WPD P ops Q n k R0 R L (fuel + 1) listed := by
  intro a w hs hw
  refine ⟨fun h0 => absurd (hr.symm.trans h0) (by simp), fun m hm => ?_⟩
  rw [hr] at hm
  simp only [List.mem_cons, List.not_mem_nil, or_false] at hm
  rcases hm with rfl | rfl | rfl
  · exact h1 a w hs hw
  · exact h2 a w hs hw
  · exact h3 a w hs hw
theorem wpa_t {ι : Type} {V : ι → Value} {R' : ι → World → Prop} (i : Nat) (hi : ops[i]? = some ⟨some d, op, ty, pos, af, g⟩) (hg : Wants ops L g)
    (hop : TOp P Q n R L op ι V R') (hd : Nat.blt d n.n = true) (hS : ∀ x w, R' x w → SK k R0 (listed.setIfInBounds i true) w)
    (next : ∀ x, WPD P ops Q n k R0 (R' x) ((d, V x) :: L) fuel (listed.setIfInBounds i true)) : WPDA P ops Q n k R0 R L fuel listed i := by
  intro a w hs hw
  unfold wpOp
  simp only [hi, hg.spec hs, if_true]
  exact .inl (hop _ _ _ _ _ a w _ hs hw fun x w' h' => ⟨hS x w' h', next x _ _ (hs.put hd (V x)) h'⟩)
theorem wpa_tp {ι : Type} {p : ι → Prop} {V : ι → Value} {R' : ι → World → Prop} (i : Nat) (hi : ops[i]? = some ⟨some d, op, ty, pos, af, g⟩) (hg : Wants ops L g)
    (hop : TOpP P Q n R L op ι p V R') (hd : Nat.blt d n.n = true) (hS : ∀ x w, R' x w → SK k R0 (listed.setIfInBounds i true) w)
    (next : ∀ x, p x → WPD P ops Q n k R0 (R' x) ((d, V x) :: L) fuel (listed.setIfInBounds i true)) : WPDA P ops Q n k R0 R L fuel listed i :=
  wpa_t i hi hg hop.t hd (fun x => hS x.1) fun x => next x.1 x.2
theorem wpa_t0 {ι : Type} {V : ι → Value} {R' : ι → World → Prop} (i : Nat) (hi : ops[i]? = some ⟨none, op, ty, pos, af, g⟩) (hg : Wants ops L g)
    (hop : TOp P Q n R L op ι V R') (hS : ∀ x w, R' x w → SK k R0 (listed.setIfInBounds i true) w)
    (next : ∀ x, WPD P ops Q n k R0 (R' x) L fuel (listed.setIfInBounds i true)) : WPDA P ops Q n k R0 R L fuel listed i := by
  intro a w hs hw
  unfold wpOp
  simp only [hi, hg.spec hs, if_true]
  exact .inl (hop _ _ _ _ _ a w _ hs hw fun x w' h' => ⟨hS x w' h', next x _ _ hs h'⟩)
end
end Go.PL
