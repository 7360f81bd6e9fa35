import Derived.Test.YtgnablliekgbgaaDoorMNPLZ
import Derived.Deep.Strs
import Derived.Lib.Builder
import Derived.Lib.UnsafeStr
import Derived.Laws.Externs
import Derived.Laws.Strings2
import Derived.Laws.Strings3
set_option linter.unusedVariables false
set_option linter.unusedSimpArgs false
/- Regions where several operations that act are ready together: each order is walked. -/
namespace Go.PL
open Go Go.RowKit
section
variable {P : Program} {ops : Array Oper} {Q : Exit → Act → World → Prop} {R0 : World → Prop}
variable {n : Cx} {R : World → Prop} {L : Slots} {k fuel : Nat} {listed : Array Bool}
variable {op : Op} {d : Nat} {ty : TypeId} {pos : String} {af : Array Edge} {g : Option (Nat × Bool)}
def WPDA (P : Program) (ops : Array Oper) (Q : Exit → Act → World → Prop) (n : Cx) (k : Nat) (R0 R : World → Prop) (L : Slots) (fuel : Nat) (listed : Array Bool) (i : Nat) : Prop :=
  ∀ a w, Sl n a L → R w → wpOp P ops Q i (fun a' w' => SK k R0 (listed.setIfInBounds i true) w' ∧ wpAnyI P .any ops Q (SK k R0) fuel (listed.setIfInBounds i true) a' w') a w
theorem wpd_two (i j : Nat) (hr : Region.ready .any ops listed = [i, j]) (h1 : WPDA P ops Q n k R0 R L fuel listed i) (h2 : WPDA P ops Q n k R0 R L fuel listed j) : WPD P ops Q n k R0 R L (fuel + 1) listed := by
  intro a w hs hw
  refine ⟨fun h0 => absurd (hr.symm.trans h0) zz40, fun m hm => ?_⟩
  rw [hr] at hm
  simp only [List.mem_cons, List.not_mem_nil, or_false] at hm
  rcases hm with rfl | rfl
  · exact h1 a w hs hw
  · exact h2 a w hs hw
theorem wpd_three (i j l : Nat) (hr : Region.ready .any ops listed = [i, j, l]) (h1 : WPDA P ops Q n k R0 R L fuel listed i) (h2 : WPDA P ops Q n k R0 R L fuel listed j) (h3 : WPDA P ops Q n k R0 R L fuel listed l) : WPD P ops Q n k R0 R L (fuel + 1) listed := by
  intro a w hs hw
  refine ⟨fun h0 => absurd (hr.symm.trans h0) zz40, fun m hm => ?_⟩
  rw [hr] at hm
  simp only [List.mem_cons, List.not_mem_nil, or_false] at hm
  rcases hm with rfl | rfl | rfl
  · exact h1 a w hs hw
  · exact h2 a w hs hw
  · exact h3 a w hs hw
theorem wpa_t {ι : Type} {V : ι → Value} {R' : ι → World → Prop} (i : Nat) (hi : ops[i]? = some ⟨some d, op, ty, pos, af, g⟩) (hg : Wants ops L g)
    (hop : TOp P Q n R L op ι V R') (hd : Nat.blt d n.n = true) (hS : ∀ x w, R' x w → SK k R0 (listed.setIfInBounds i true) w)
    (next : ∀ x, WPD P ops Q n k R0 (R' x) ((d, V x) :: L) fuel (listed.setIfInBounds i true)) : WPDA P ops Q n k R0 R L fuel listed i := by
  intro a w hs hw
  unfold wpOp
  simp only [hi, hg.spec hs, if_true]
  exact .inl (hop _ _ _ _ _ a w _ hs hw fun x w' h' => ⟨hS x w' h', next x _ _ (hs.put hd (V x)) h'⟩)
theorem wpa_tp {ι : Type} {p : ι → Prop} {V : ι → Value} {R' : ι → World → Prop} (i : Nat) (hi : ops[i]? = some ⟨some d, op, ty, pos, af, g⟩) (hg : Wants ops L g)
    (hop : TOpP P Q n R L op ι p V R') (hd : Nat.blt d n.n = true) (hS : ∀ x w, R' x w → SK k R0 (listed.setIfInBounds i true) w)
    (next : ∀ x, p x → WPD P ops Q n k R0 (R' x) ((d, V x) :: L) fuel (listed.setIfInBounds i true)) : WPDA P ops Q n k R0 R L fuel listed i :=
  wpa_t i hi hg hop.t hd (fun x => hS x.1) fun x => next x.1 x.2
theorem wpa_t0 {ι : Type} {V : ι → Value} {R' : ι → World → Prop} (i : Nat) (hi : ops[i]? = some ⟨none, op, ty, pos, af, g⟩) (hg : Wants ops L g)
    (hop : TOp P Q n R L op ι V R') (hS : ∀ x w, R' x w → SK k R0 (listed.setIfInBounds i true) w)
    (next : ∀ x, WPD P ops Q n k R0 (R' x) L fuel (listed.setIfInBounds i true)) : WPDA P ops Q n k R0 R L fuel listed i := by
  intro a w hs hw
  unfold wpOp
  simp only [hi, hg.spec hs, if_true]
  exact .inl (hop _ _ _ _ _ a w _ hs hw fun x w' h' => ⟨hS x w' h', next x _ _ hs h'⟩)
end
end Go.PL
namespace Go.PL
open Go Go.RowKit
section
variable {P : Program} {n : Cx} {R : World → Prop} {L : Slots} {Q : Exit → Act → World → Prop}
variable {w0 w : World} {Ln : List Nat} {M : List Ent} {S : List Fact}
theorem Mem.lent2 {w' : World} {M1 M2 : List Ent} {b1 b2 : Nat} {t1 t2 : TypeId} {c1 c2 c1' c2' : List Value} (h : Mem w0 Ln M S w) (hr1 : Repl M (.blk b1 t1 c1) (.blk b1 t1 c1') M1) (hr2 : Repl M1 (.blk b2 t2 c2) (.blk b2 t2 c2') M2)
    (h2 : Mem w [b1, b2] [.blk b1 t1 c1', .blk b2 t2 c2'] [] w') : Mem w0 Ln M2 S w' := by
  have hne : b1 ≠ b2 := by
    have := h2.apart
    simp only [List.pairwise_cons, List.mem_cons, List.not_mem_nil, or_false, forall_eq] at this
    have := this.1 b1 rfl
    intro e; subst e; exact this rfl
  have hlt : b1 < w.heap.size := Ent.lt (h.own _ hr1.mem) rfl
  let wm : World := { w with heap := w.heap.setIfInBounds b1 (.cells c1'.toArray t1 (0, 0)) }
  have g1 : wm.heap[b1]? = some (.cells c1'.toArray t1 (0, 0)) := by simp [wm, hlt]
  have g2 : ∀ k, k ≠ b1 → wm.heap[k]? = w.heap[k]? := fun k hk => by simp [wm, Array.getElem?_setIfInBounds, Ne.symm hk]
  have gs : wm.heap.size = w.heap.size := by simp [wm]
  have hm : Mem w0 Ln M1 S wm := h.turn hr1 rfl rfl rfl (Nat.le_of_eq gs.symm) (fun k hk hn => g2 k (fun e => hn (by simp [Ent.num, e]))) g1 (fun k hk => .inl hk)
  refine hm.turn hr2 h2.os h2.tape h2.output (by rw [gs]; exact h2.size) (fun k hk hn => ?_) (h2.own _ zz40) (fun k hk => .inl hk)
  by_cases e : k = b1
  · subst e; rw [g1]; exact h2.own _ (List.mem_cons_self ..)
  · rw [g2 k e]
    refine h2.old k (by rwa [gs] at hk) ?_
    simp only [List.mem_cons, List.not_mem_nil, or_false, not_or]
    exact ⟨e, fun e2 => hn (by simp [Ent.num, e2])⟩
theorem t_turnV2 {f : Operand} {k : FuncId} {args : Array Operand} {at_ : Array TypeId} {cap : Array Value} {vs : List Value} {v : Value} (b1 b2 : Nat) {t1 t2 : TypeId} {c1 c2 : List Value} (c1' c2' : List Value) {f1 f2 : List Value → List Ent}
    [hr1 : ReplB M b1 t1 c1 f1] [hB : HasB M b2 t2 c2] [hr2 : ReplB (f1 c1') b2 t2 c2 f2] (ht : t1 ≠ t2) (hf : ev L f = some (.func (.func k) #[] cap)) (hb : HasBody P k) (hv : evs L args.toList = some vs)
    (hc : ∀ w, Mem w0 Ln M S w → w.heap[b1]? = some (.cells c1.toArray t1 (0, 0)) → w.heap[b2]? = some (.cells c2.toArray t2 (0, 0)) → b1 ≠ b2 → Calls P k (vs.toArray ++ cap) w (GivesL w [b1, b2] (fun _ : Unit => v) fun _ => [.blk b1 t1 c1', .blk b2 t2 c2'])) :
    TOp P Q n (Mem w0 Ln M S) L (.call { callee := .value f, args := args, argTypes := at_ }) Unit (fun _ => v) (fun _ => Mem w0 Ln (f2 c2') S) :=
  t_callG hf hb hv fun w hm => by
    have h1 := hm.own _ (hr1.out c1).mem
    have h2 := hm.own _ hB.out
    have hne : b1 ≠ b2 := fun e => by
      subst e
      have := (show w.heap[b1]? = some (.cells c1.toArray t1 (0, 0)) from h1).symm.trans h2
      simp at this
      exact ht this.2
    refine (hc w hm h1 h2 hne).mono ?_
    rintro e w' ⟨_, rfl, h3⟩
    exact ⟨(), rfl, hm.lent2 (hr1.out c1') (hr2.out c2') h3⟩
theorem Mem.start2 {b1 b2 : Nat} {t1 t2 : TypeId} {c1 c2 : List Value} (w : World) (h1 : w.heap[b1]? = some (.cells c1.toArray t1 (0, 0))) (h2 : w.heap[b2]? = some (.cells c2.toArray t2 (0, 0))) (hne : b1 ≠ b2) : Mem w [b1, b2] [.blk b1 t1 c1, .blk b2 t2 c2] [] w :=
  Mem.startL (Ms := [.blk b1 t1 c1, .blk b2 t2 c2]) w (by intro e he; simp at he; rcases he with rfl | rfl; exact h1; exact h2) (by simp [Ent.num]; exact fun e => hne e.symm)
end
end Go.PL
namespace Go.PL
open Go Go.RowKit
section
variable {P : Program} {n : Cx} {R : World → Prop} {L : Slots} {Q : Exit → Act → World → Prop}
variable {w0 w : World} {Ln : List Nat} {M : List Ent} {S : List Fact}
theorem Mem.lentR {w' : World} {M' : List Ent} {e e' : Ent} (h : Mem w0 Ln M S w) (hr : Repl M e e' M') (h2 : Mem w (nums [e]) [e'] [] w') : Mem w0 Ln M' S w' := by
  refine h.turn hr h2.os h2.tape h2.output h2.size (fun k hk hne => h2.old k hk ?_) (h2.own _ (List.mem_cons_self ..)) ?_
  · intro hm
    obtain ⟨x, hx, hn⟩ := mem_nums.1 hm
    rw [List.mem_singleton] at hx
    subst hx; exact hne hn
  · intro k hk
    rcases h2.new _ (List.mem_cons_self ..) k hk with h3 | h3
    · exact .inr h3
    · obtain ⟨x, hx, hn⟩ := mem_nums.1 h3
      rw [List.mem_singleton] at hx
      subst hx; exact .inl hn
def GivesR (w : World) (e0 : Ent) (m' : Nat) (e : TypeId) (sz : Nat) (ys : List Value) (en : Ending) (w' : World) : Prop :=
  ∃ v', SV v' m' ∧ en = .returned v' ∧ Mem w (nums [e0]) [.row v' m' e sz ys] [] w'
instance nop_givesR {fn : Func} {w : World} {e0 : Ent} {m' : Nat} {e : TypeId} {sz : Nat} {ys : List Value} : NoP (bodyPost P fn (GivesR w e0 m' e sz ys)) := nop_post fun c w' ⟨v, _, h, _⟩ => by cases h
theorem Mem.startR {e0 : Ent} (w : World) (h : e0.at w) : Mem w (nums [e0]) [e0] [] w := Mem.startL (Ms := [e0]) w (by intro e he; rw [List.mem_singleton] at he; subst he; exact h) zz40
theorem t_callR {k : FuncId} {args : Array Operand} {at_ : Array TypeId} {vs : List Value} {v : Value} {m m' : Nat} {e : TypeId} {sz : Nat} {xs ys : List Value} {f : Ent → List Ent} [hr : ReplV M v m e sz xs f] (hb : HasBody P k) (hv : evs L args.toList = some vs)
    (hc : ∀ w, Mem w0 Ln M S w → (Ent.row v m e sz xs).at w → Calls P k vs.toArray w (GivesR w (.row v m e sz xs) m' e sz ys)) :
    TOpP P Q n (Mem w0 Ln M S) L (.call { callee := .value (.func k), args := args, argTypes := at_ }) Value (fun v' => SV v' m') (fun v' => v') (fun v' => Mem w0 Ln (f (.row v' m' e sz ys)) S) := by
  have h : TOp P Q n (Mem w0 Ln M S) L (.call { callee := .value (.func k), args := args, argTypes := at_ }) { v' : Value // SV v' m' } (fun v' => v'.1) (fun v' => Mem w0 Ln (f (.row v'.1 m' e sz ys)) S) :=
    t_callG (cap := #[]) rfl hb hv fun w hm => by
      simp only [Array.append_empty]
      refine (hc w hm (hm.own _ (hr.out (.row v m e sz xs)).mem)).mono ?_
      rintro en w' ⟨v', hs, rfl, h2⟩
      exact ⟨⟨v', hs⟩, rfl, hm.lentR (hr.out _) h2⟩
  exact h.rep fun v' w h => ⟨v'.1, v'.2, rfl, h⟩
theorem t_callR0 {k : FuncId} {args : Array Operand} {at_ : Array TypeId} {vs : List Value} {m' : Nat} (e : TypeId) (sz : Nat) {ys : List Value} (hb : HasBody P k) (hv : evs L args.toList = some vs)
    (hc : ∀ w, Mem w0 Ln M S w → (Ent.row (.slice none 0 0) 0 e sz []).at w → Calls P k vs.toArray w (GivesR w (.row (.slice none 0 0) 0 e sz []) m' e sz ys)) :
    TOpP P Q n (Mem w0 Ln M S) L (.call { callee := .value (.func k), args := args, argTypes := at_ }) Value (fun v' => SV v' m') (fun v' => v') (fun v' => Mem w0 Ln (.row v' m' e sz ys :: M) S) := by
  have h : TOp P Q n (Mem w0 Ln M S) L (.call { callee := .value (.func k), args := args, argTypes := at_ }) { v' : Value // SV v' m' } (fun v' => v'.1) (fun v' => Mem w0 Ln (.row v'.1 m' e sz ys :: M) S) :=
    t_callG (cap := #[]) rfl hb hv fun w hm => by
      simp only [Array.append_empty]
      refine (hc w hm (World.ownsRow_nil w 0 e sz)).mono ?_
      rintro en w' ⟨v', hs, rfl, h2⟩
      exact ⟨⟨v', hs⟩, rfl, (hm.nilRow e sz).lentR .here h2⟩
  exact h.rep fun v' w h => ⟨v'.1, v'.2, rfl, h⟩
theorem Mem.swap {a b : Ent} (h : Mem w0 Ln (a :: b :: M) S w) : Mem w0 Ln (b :: a :: M) S w := by
  have hm : ∀ e, e ∈ b :: a :: M → e ∈ a :: b :: M := fun e he => by
    simp only [List.mem_cons] at he ⊢
    rcases he with h | h | h
    · exact .inr (.inl h)
    · exact .inl h
    · exact .inr (.inr h)
  refine ⟨h.os, h.tape, h.output, h.size, h.old, fun e he => h.own e (hm e he), fun e he => h.new e (hm e he), ?_, fun s hs => s.mono _ _ (fun x v hv => ?_) (h.facts s hs)⟩
  · have := h.apart
    simp only [List.pairwise_cons, List.mem_cons] at this ⊢
    obtain ⟨h1, h2, h3⟩ := this
    refine ⟨fun x hx => ?_, fun x hx => h1 x (.inr hx), h3⟩
    rcases hx with rfl | hx
    · intro k hk hk2; exact h1 b (.inl rfl) k hk2 hk
    · exact h2 x hx
  · simp only [rdF] at hv ⊢
    have e : inM (b :: a :: M) x.block = inM (a :: b :: M) x.block := by simp [inM, Bool.or_left_comm]
    rw [e]; exact hv
end
end Go.PL
namespace Go.PL
open Go Go.RowKit Go.ChangeShapes Go.Deep
section
variable {H : Type} {enc : TypeId × Value → H} {P : Program} {w : World} {base : Nat} {sp : Nat → Bool} {held : Bool}
theorem opens_st2 {t : TypeId} {f0 f1 : Field} {α β : Type} {R0 : α → List Value → DataW H → Prop} {R1 : β → List Value → DataW H → Prop} {s0 s1 : Nat} (ht : P.underlying t = some (.struct #[f0, f1])) (o0 : f0.offset = 0) (c0 : P.cellsOf f0.type = s0) (o1 : f1.offset = s0) (c1 : P.cellsOf f1.type = s1) (hc : P.cellsOf t = s0 + s1)
    (h0 : Opens enc P w base sp held f0.type R0) (h1 : Opens enc P w base sp held f1.type R1) :
    Opens enc P w base sp held t (fun (p : α × β) c _ => ∃ x y d0 d1, c = x ++ y ∧ R0 p.1 x d0 ∧ R1 p.2 y d1) := by
  intro n cs x h
  obtain ⟨y0, y1, m, rfl, hl, k0, k1⟩ := trod_struct2 ht h
  obtain ⟨a, ha⟩ := h0 _ _ _ k0
  obtain ⟨b, hb⟩ := h1 _ _ _ k1
  refine ⟨(a, b), _, _, _, _, ?_, ha, hb⟩
  rw [o0, c0, o1, c1, List.drop_zero, List.take_of_length_le (l := cs.drop s0) zz38, List.take_append_drop]
theorem opens_st3 {t : TypeId} {f0 f1 f2 : Field} {α β γ : Type} {R0 : α → List Value → DataW H → Prop} {R1 : β → List Value → DataW H → Prop} {R2 : γ → List Value → DataW H → Prop} {s0 s1 s2 : Nat} (ht : P.underlying t = some (.struct #[f0, f1, f2]))
    (o0 : f0.offset = 0) (c0 : P.cellsOf f0.type = s0) (o1 : f1.offset = s0) (c1 : P.cellsOf f1.type = s1) (o2 : f2.offset = s0 + s1) (c2 : P.cellsOf f2.type = s2) (hc : P.cellsOf t = s0 + s1 + s2)
    (h0 : Opens enc P w base sp held f0.type R0) (h1 : Opens enc P w base sp held f1.type R1) (h2 : Opens enc P w base sp held f2.type R2) :
    Opens enc P w base sp held t (fun (p : α × β × γ) c _ => ∃ x y z d0 d1 d2, c = x ++ (y ++ z) ∧ R0 p.1 x d0 ∧ R1 p.2.1 y d1 ∧ R2 p.2.2 z d2) := by
  intro n cs x h
  obtain ⟨y0, y1, y2, m, rfl, hl, k0, k1, k2⟩ := trod_struct3 ht h
  obtain ⟨a, ha⟩ := h0 _ _ _ k0
  obtain ⟨b, hb⟩ := h1 _ _ _ k1
  obtain ⟨c, hc'⟩ := h2 _ _ _ k2
  refine ⟨(a, b, c), _, _, _, _, _, _, ?_, ha, hb, hc'⟩
  rw [o0, c0, o1, c1, o2, c2, List.drop_zero, List.take_of_length_le (l := cs.drop (s0 + s1)) zz38, ← List.drop_drop, List.take_append_drop, List.take_append_drop]
end
end Go.PL
namespace Go.PL
open Go Go.RowKit
section
variable {P : Program} {n : Cx} {R : World → Prop} {L : Slots} {Q : Exit → Act → World → Prop}
variable {w0 w : World} {Ln : List Nat} {M : List Ent} {S : List Fact}
theorem Mem.imp {T : List Fact} (h : Mem w0 Ln M S w) (hi : ∀ r : Rd, (∀ s ∈ S, s.f r) → ∀ t ∈ T, t.f r) : Mem w0 Ln M T w :=
  ⟨h.os, h.tape, h.output, h.size, h.old, h.own, h.new, h.apart, fun t ht => hi _ h.facts t ht⟩
def rowsF (sz : Nat) (qs : List (Value × List (List UInt8))) : Fact := ⟨fun r => ∀ q ∈ qs, Seen r q.1 q.2.length sz (v8s q.2.flatten), fun _ _ hr h q hq => (h q hq).mono hr⟩
theorem Mem.rowsF {sz : Nat} {qs : List (Value × List (List UInt8))} (h : Mem w0 Ln M S w) (hs : Go.PL.rowsF sz qs ∈ S) {q : Value × List (List UInt8)} (hq : q ∈ qs) : Seen w.cell? q.1 q.2.length sz (v8s q.2.flatten) := h.fact hs q hq
theorem t_callPF {k : FuncId} {args : Array Operand} {at_ : Array TypeId} {vs : List Value} {ι : Type} {p : ι → Prop} {V : ι → Value} {E : ι → Ent} {T : ι → Fact}
    (hb : HasBody P k) (hv : evs L args.toList = some vs) (hc : ∀ w, Mem w0 Ln M S w → Calls P k vs.toArray w (GivesP w p V (fun x => [E x]) (fun x => [T x]))) :
    TOpP P Q n (Mem w0 Ln M S) L (.call { callee := .value (.func k), args := args, argTypes := at_ }) ι p V (fun x => Mem w0 Ln (E x :: M) (T x :: S)) := t_callP hb hv hc
end
end Go.PL
namespace Go.PL
open Go Go.RowKit
class L16 (l : List UInt8) : Prop where
  h : l.length = 16
instance l16_rep {x : UInt8} : L16 (List.replicate 16 x) := ⟨List.length_replicate⟩
class SubC {α : Type} (l l' : List α) : Prop where
  h : Sub l l'
instance (priority := 1500) subC_nil {α : Type} {l : List α} : SubC [] l := ⟨.nil⟩
instance (priority := 1200) subC_keep {α : Type} {x : α} {l l' : List α} [s : SubC l l'] : SubC (x :: l) (x :: l') := ⟨.keep s.h⟩
instance (priority := 800) subC_drop {α : Type} {x : α} {l l' : List α} [s : SubC l l'] : SubC l (x :: l') := ⟨.drop s.h⟩
end Go.PL
namespace Go.PL
open Go Go.RowKit
section
variable {P : Program} {n : Cx} {R : World → Prop} {L : Slots} {Q : Exit → Act → World → Prop}
variable {w0 w : World} {Ln : List Nat} {M : List Ent} {S : List Fact}
theorem q_strIdx {t : TypeId} {x i : Operand} {xs : List UInt8} {k : IntKind} {j : Nat} (hu : P.underlying t = some .string) (hx : ev L x = some (str xs)) (hi : ev L i = some (.int k ((j : Nat) : Int))) (h : j < xs.length) :
    QOp P n R L (.index t x i) (.int .u8 ((xs.getD j 0).toNat : Int)) := by
  intro d ty pos af g a w hs _
  have hj : xs.getD j 0 = xs[j] := by rw [List.getD_eq_getElem?_getD, List.getElem?_eq_getElem h]; rfl
  rw [hj]
  have hb : (⟨xs.toArray⟩ : ByteArray)[j]? = some xs[j] := by
    rw [getElem?_pos (⟨xs.toArray⟩ : ByteArray) j (show j < xs.toArray.size by simpa using h)]; rfl
  simp only [execOp, hs.eval hx, hs.eval hi]
  simp [Instr.index, asIntOf, run_underlying hu, str, h, hb]
def sd : Value → Value
  | .slice a _ _ => .pointer a
  | u => u
theorem q_sliceData {tys : Array TypeId} {x : Operand} {v : Value} {m : Nat} (hx : ev L x = some v) (hv : SV v m) (h : 0 < m ∨ v = .slice none 0 0) :
    QOp P n R L (.call { callee := .builtin .unsafeSliceData, args := #[x], argTypes := tys }) (sd v) := by
  intro d ty pos af g a w hs _
  simp only [execOp, resolve, invoke, builtin, List.map_toArray, List.map_cons, List.map_nil, hs.eval hx]
  obtain ⟨ad, cap, rfl, h1, h2, h3⟩ := hv
  cases ad with
  | none => simp [Lib.run_unsafeSliceData_nil, sd]
  | some ad =>
    have hc : cap ≠ 0 := by
      rcases h with h | h
      · omega
      · cases h
    simp [Lib.run_unsafeSliceData_row w _ _ _ _ _ hc, sd]
class SameP (P : Program) (k : FuncId) : Prop where
  out : ∀ (x : Value) (w : World), (callFunc k #[x]).run P w = .ok (.value x) w
theorem q_same {k : FuncId} {x : Operand} {at_ : Array TypeId} {v : Value} [h : SameP P k] (hx : ev L x = some v) : QOp P n R L (.call { callee := .value (.func k), args := #[x], argTypes := at_ }) v := by
  intro d ty pos af g a w hs _
  have hf : ev L (.func k) = some (.func (.func k) #[] #[]) := rfl
  simp only [execOp, resolve, List.map_toArray, List.map_cons, List.map_nil, hs.eval hx, hs.eval hf]
  simp [Deferred.ofValue, invoke, h.out]
theorem q_ptrNilT {tp te t' : TypeId} {x y : Operand} (hp : P.underlying tp = some (.pointer te)) (hx : ev L x = some (.pointer none)) (hy : ev L y = some (.pointer none)) (hg : P.eqGuardType P.depth tp = false) : QOp P n R L (.binOp .eql tp x y t') (.bool true) := by
  intro d ty pos af g a w hs _
  have h : ∀ d : Nat, (Op.equalIn (d + 1) tp (.pointer none) (.pointer none)).run P w = .ok true w := fun d => by
    simp [Op.equalIn, run_underlying hp]
  simp only [execOp, hs.eval hx, hs.eval hy]
  have h2 : (binOp .eql tp (.pointer none) (.pointer none)).run P w = .ok (.bool true) w := by
    simp only [binOp]
    simp [Op.equal, Op.maxDepth, h 9999]
  simp [eqGuard, hg, h2]
theorem q_ptrNilF {tp te t' : TypeId} {x y : Operand} {ad : Addr} (hp : P.underlying tp = some (.pointer te)) (hx : ev L x = some (.pointer (some ad))) (hy : ev L y = some (.pointer none)) (hg : P.eqGuardType P.depth tp = false) : QOp P n R L (.binOp .eql tp x y t') (.bool false) := by
  intro d ty pos af g a w hs _
  have h : ∀ d : Nat, (Op.equalIn (d + 1) tp (.pointer (some ad)) (.pointer none)).run P w = .ok false w := fun d => by
    simp [Op.equalIn, run_underlying hp]
  simp only [execOp, hs.eval hx, hs.eval hy]
  have h2 : (binOp .eql tp (.pointer (some ad)) (.pointer none)).run P w = .ok (.bool false) w := by
    simp only [binOp]
    simp [Op.equal, Op.maxDepth, h 9999]
  simp [eqGuard, hg, h2]
theorem q_ptrNe {tp te t' : TypeId} {x y : Operand} {ad : Addr} {z : Value} {sz by_ : Nat} (hp : P.underlying tp = some (.pointer te)) (hz : TyI P te z sz by_) (hx : ev L x = some (.pointer (some ad))) (hy : ev L y = some (.pointer (some ad))) (hg : P.eqGuardType P.depth tp = false) : QOp P n R L (.binOp .neq tp x y t') (.bool false) := by
  intro d ty pos af g a w hs _
  obtain ⟨i, hi, _⟩ := hz.info
  simp only [execOp, hs.eval hx, hs.eval hy]
  simp [eqGuard, hg, Lib.run_neq_ptr_same w ad hp hi]
theorem q_toU {src dst t tb : TypeId} {x : Operand} {b : Nat} {cs : List Value} {z : Value} {sz by_ : Nat} (hs' : P.underlying src = some (.pointer t)) (hd : P.underlying dst = some .unsafePointer) (ht : TyI P t z sz by_) (hsz : Nat.beq sz 0 = false)
    (hx : ev L x = some (.pointer (some ⟨b, 0, none⟩))) [h : HasB M b tb cs] (h0 : 0 < cs.length) : QOp P n (Mem w0 Ln M S) L (.convert src dst x) (.pointer (some ⟨b, 0, none⟩)) := by
  intro d ty pos af g a w hs hm
  obtain ⟨i, hi, _, hsz', _⟩ := ht.info
  have hb := hm.own _ h.out
  have hsh : w.shape? b = some (tb, cs.length) := by
    unfold World.shape?
    rw [show w.heap[b]? = some (.cells cs.toArray tb (0, 0)) from hb]; simp
  simp only [execOp, hs.eval hx]
  have hr := Lib.run_to_unsafe (P := P) w ⟨b, 0, none⟩ hs' hd hi (by rw [hsz']; intro e; rw [e] at hsz; simp at hsz) hsh h0
  simp [hr]
theorem q_fromU {src dst u tb : TypeId} {x : Operand} {b : Nat} {cs : List Value} {z : Value} {sz by_ : Nat} (hs' : P.underlying src = some .unsafePointer) (hd : P.underlying dst = some (.pointer u)) (ht : TyI P u z sz by_)
    (hx : ev L x = some (.pointer (some ⟨b, 0, none⟩))) [h : HasB M b tb cs] (hl : liesAt P P.depth tb (cs.length / P.cellsOf tb) 0 u 1 = true) : QOp P n (Mem w0 Ln M S) L (.convert src dst x) (.pointer (some ⟨b, 0, none⟩)) := by
  intro d ty pos af g a w hs hm
  obtain ⟨i, hi, _, _, _⟩ := ht.info
  have hb := hm.own _ h.out
  have hsh : w.shape? b = some (tb, cs.length) := by
    unfold World.shape?
    rw [show w.heap[b]? = some (.cells cs.toArray tb (0, 0)) from hb]; simp
  simp only [execOp, hs.eval hx]
  have hr := Lib.run_from_unsafe (P := P) w ⟨b, 0, none⟩ hs' hd hi hsh hl
  simp [hr]
theorem t_unsafeStr {pt it e : TypeId} {x y : Operand} {v : Value} {xs : List UInt8} {M' : List Ent} (hpp : P.underlying pt = some (.pointer e)) (hc : P.cellsOf e = 1) (hx : ev L x = some (sd v)) (hy : ev L y = some (.int .i64 ((xs.length : Nat) : Int)))
    (hp : Pick M (.row v xs.length e 1 (v8s xs)) M') (h0 : xs ≠ []) (h63 : xs.length ≤ 9223372036854775807) :
    TOp P Q n (Mem w0 [] M S) L (.call { callee := .builtin .unsafeString, args := #[x, y], argTypes := #[pt, it] }) Unit (fun _ => str xs) (fun _ => Mem w0 [] M' (seen v xs.length 1 (v8s xs) :: S)) := by
  intro d ty pos af g a w K hs hm hk
  have hfr := hm.freezeRow hp
  have hown : w.ownsRow 0 e 1 v xs.length (v8s xs) := hm.own _ hp.mem
  have hap := hp.apart hm.apart
  have hnew := hm.new _ hp.mem
  have hl0 : xs.length ≠ 0 := by simpa using h0
  have hseen := hm.seen_row hp.mem
  rcases hown.2 with ⟨rfl, hz⟩ | ⟨b, cap, cur, rfl, _, hg, h3, h4, h5, h6⟩
  · omega
  · have hsh : w.shape? b = some (e, cur.size) := by unfold World.shape?; rw [hg]
    have hcell : ∀ j x, xs[j]? = some x → w.cell? ((⟨b, 0, none⟩ : Addr).add j) = some (.int .u8 x.toNat) := fun j x hj => hseen.cell (by rw [v8s, List.getElem?_map, hj]; rfl)
    have hn : xs.length ≤ cur.size := by
      have h1 := hcell (xs.length - 1) _ (List.getElem?_eq_getElem zz12)
      rw [add_lit, Nat.zero_add] at h1
      simp only [World.cell?, hg] at h1
      have := (Array.getElem?_eq_some_iff.1 h1).1
      omega
    have hrun := Lib.run_unsafeString_row (P := P) w pt it ty e hpp hc b cur.size hsh xs h0 hn h63 hcell
    have hrun2 : (execOp a.eval ⟨d, .call { callee := .builtin .unsafeString, args := #[x, y], argTypes := #[pt, it] }, ty, pos, af, g⟩).run P w = .ok (.value (str xs)) (w.freeze ⟨b, 0, none⟩ xs.length) := by
      simp only [execOp, resolve, invoke, builtin, List.map_toArray, List.map_cons, List.map_nil, hs.eval hx, hs.eval hy, sd]
      simp [hrun, str]
    unfold Oper.wp
    rw [hrun2]
    have hnum : (Ent.row (.slice (some ⟨b, 0, none⟩) xs.length cap) xs.length e 1 (v8s xs)).num = some b := rfl
    have hF : w.freeze ⟨b, 0, none⟩ xs.length = { w with heap := w.heap.modify b fun
      | .cells c elem (lo, hi) => .cells c elem (if lo == hi then (0, 0 + xs.length) else (min lo 0, max hi (0 + xs.length)))
      | o => o } := by unfold World.freeze; rw [if_neg (by simpa using hl0)]; rfl
    have hne : ∀ k, k ≠ b → (w.freeze ⟨b, 0, none⟩ xs.length).heap[k]? = w.heap[k]? := fun k hk => by
      rw [hF]; simp only [Array.getElem?_modify]; rw [if_neg (fun e => hk e.symm)]
    have hbb : (w.freeze ⟨b, 0, none⟩ xs.length).heap[b]? = some (.cells cur e (0, 0 + xs.length)) := by
      rw [hF]; simp only [Array.getElem?_modify, hg, if_true]; simp
    refine hk () _ (hfr.marked (b := b) (by rw [hF]) (by rw [hF]) (by rw [hF]) (by rw [hF]; simp) hne (hap b hnum) ((hnew b hnum).resolve_right zz40) fun ad u hu => ?_)
    by_cases e' : ad.block = b
    · unfold World.cell? at hu ⊢
      rw [e', hbb]
      rw [e', hg] at hu
      exact hu
    · rw [World.cell?_of_block (hne _ e')]; exact hu
theorem t_unsafeStrL {pt it e : TypeId} {x y : Operand} {v : Value} {xs : List UInt8} {M' : List Ent} (hpp : P.underlying pt = some (.pointer e)) (hc : P.cellsOf e = 1) (hx : ev L x = some (sd v)) (hy : ev L y = some (.int .i64 ((xs.length : Nat) : Int)))
    (hp : Pick M (.row v xs.length e 1 (v8s xs)) M') (h0 : xs ≠ []) (h63 : xs.length ≤ 9223372036854775807) :
    TOp P Q n (Mem w0 Ln M S) L (.call { callee := .builtin .unsafeString, args := #[x, y], argTypes := #[pt, it] }) Unit (fun _ => str xs) (fun _ => Mem w0 Ln M' S) := by
  intro d ty pos af g a w K hs hm hk
  have hown : w.ownsRow 0 e 1 v xs.length (v8s xs) := hm.own _ hp.mem
  have hap := hp.apart hm.apart
  have hl0 : xs.length ≠ 0 := by simpa using h0
  have hseen := hm.seen_row hp.mem
  rcases hown.2 with ⟨rfl, hz⟩ | ⟨b, cap, cur, rfl, _, hg, h3, h4, h5, h6⟩
  · omega
  · have hsh : w.shape? b = some (e, cur.size) := by unfold World.shape?; rw [hg]
    have hcell : ∀ j x, xs[j]? = some x → w.cell? ((⟨b, 0, none⟩ : Addr).add j) = some (.int .u8 x.toNat) := fun j x hj => hseen.cell (by rw [v8s, List.getElem?_map, hj]; rfl)
    have hn : xs.length ≤ cur.size := by
      have h1 := hcell (xs.length - 1) _ (List.getElem?_eq_getElem zz12)
      rw [add_lit, Nat.zero_add] at h1
      simp only [World.cell?, hg] at h1
      have := (Array.getElem?_eq_some_iff.1 h1).1
      omega
    have hrun := Lib.run_unsafeString_row (P := P) w pt it ty e hpp hc b cur.size hsh xs h0 hn h63 hcell
    have hrun2 : (execOp a.eval ⟨d, .call { callee := .builtin .unsafeString, args := #[x, y], argTypes := #[pt, it] }, ty, pos, af, g⟩).run P w = .ok (.value (str xs)) (w.freeze ⟨b, 0, none⟩ xs.length) := by
      simp only [execOp, resolve, invoke, builtin, List.map_toArray, List.map_cons, List.map_nil, hs.eval hx, hs.eval hy, sd]
      simp [hrun, str]
    unfold Oper.wp
    rw [hrun2]
    have hnum : (Ent.row (.slice (some ⟨b, 0, none⟩) xs.length cap) xs.length e 1 (v8s xs)).num = some b := rfl
    have hF : w.freeze ⟨b, 0, none⟩ xs.length = { w with heap := w.heap.modify b fun
      | .cells c elem (lo, hi) => .cells c elem (if lo == hi then (0, 0 + xs.length) else (min lo 0, max hi (0 + xs.length)))
      | o => o } := by unfold World.freeze; rw [if_neg (by simpa using hl0)]; rfl
    have hne : ∀ k, k ≠ b → (w.freeze ⟨b, 0, none⟩ xs.length).heap[k]? = w.heap[k]? := fun k hk => by
      rw [hF]; simp only [Array.getElem?_modify]; rw [if_neg (fun e => hk e.symm)]
    have hbb : (w.freeze ⟨b, 0, none⟩ xs.length).heap[b]? = some (.cells cur e (0, 0 + xs.length)) := by
      rw [hF]; simp only [Array.getElem?_modify, hg, if_true]; simp
    refine hk () _ (hm.step (by rw [hF]) (by rw [hF]) (by rw [hF]) (by rw [hF]; simp) (fun k _ _ hin => hne k fun e => ?_) (fun u hu => Ent.kept (hm.own u (hp.sublist.subset hu)) fun k hk => hne k fun e => inM_not (hap b hnum) u hu (e ▸ hk)) (fun u hu => hm.new u (hp.sublist.subset hu)) (hm.apart.sublist hp.sublist) fun k _ hin => ?_)
    · subst e; exact inM_not hin _ hp.mem hnum
    · cases hi : inM M' k
      · rfl
      · obtain ⟨x, hx, hxn⟩ := inM_iff.1 hi
        exact absurd hxn (inM_not hin x (hp.sublist.subset hx))
theorem q_unsafeStr0 {pt it : TypeId} {x y : Operand} {p : Option Addr} (hx : ev L x = some (.pointer p)) (hy : ev L y = some (.int .i64 0)) : QOp P n R L (.call { callee := .builtin .unsafeString, args := #[x, y], argTypes := #[pt, it] }) (str []) := by
  intro d ty pos af g a w hs _
  simp only [execOp, resolve, invoke, builtin, List.map_toArray, List.map_cons, List.map_nil, hs.eval hx, hs.eval hy]
  simp [Lib.run_unsafeString_none, str]
  rfl
theorem q_lenS {x : Operand} {t : TypeId} {xs : List UInt8} (hu : P.underlying t = some .string) (hx : ev L x = some (str xs)) :
    QOp P n R L (.call { callee := .builtin .len, args := #[x], argTypes := #[t] }) (.int .i64 ((xs.length : Nat) : Int)) := q_lenStr hu hx
theorem q_strEq {t t' : TypeId} {x y : Operand} {xs ys : List UInt8} (hu : P.underlying t = some .string) (hx : ev L x = some (str xs)) (hy : ev L y = some (str ys)) (hg : P.eqGuardType P.depth t = false) : QOp P n R L (.binOp .eql t x y t') (.bool (decide (xs = ys))) := by
  intro d ty pos af g a w hs _
  have hx' : ev L x = some (.string ⟨xs.toArray⟩) := hx
  have hy' : ev L y = some (.string ⟨ys.toArray⟩) := hy
  simp only [execOp, hs.eval hx', hs.eval hy']
  have h2 : (binOp .eql t (.string ⟨xs.toArray⟩) (.string ⟨ys.toArray⟩)).run P w = .ok (.bool (decide (xs = ys))) w := by
    show (Op.stringOp .eql ⟨xs.toArray⟩ ⟨ys.toArray⟩).run P w = _
    simp [Op.stringOp]
    rw [Bool.eq_iff_iff]; simp
  simp [eqGuard, hg, h2]
theorem extract_str (xs : List UInt8) (l k : Nat) : (⟨xs.toArray⟩ : ByteArray).extract l k = ⟨((xs.drop l).take (k - l)).toArray⟩ := by
  apply ByteArray.ext
  rw [ByteArray.data_extract]
  apply Array.ext'
  simp [List.extract_eq_take_drop]
theorem run_sliceAt_str {t : TypeId} {lo hi mx : Option Value} {v u : Value} (hu : P.underlying t = some .string) (h : (Instr.slice t v lo hi mx).run P w = .ok u w) : (Instr.sliceAt t v lo hi mx).run P w = .ok u w := by
  simp [Instr.sliceAt, run_underlying hu, h]
theorem q_strHi {t : TypeId} {x h : Operand} {kh : IntKind} {xs : List UInt8} {k : Nat} (hu : P.underlying t = some .string) (hx : ev L x = some (str xs)) (hh : ev L h = some (.int kh ((k : Nat) : Int))) (hk : k ≤ xs.length) :
    QOp P n R L (.slice t x none (some h) none) (str (xs.take k)) := by
  intro d ty pos af g a w hs _
  have hx' : ev L x = some (.string ⟨xs.toArray⟩) := hx
  have hr := run_slice_string_to_if (P := P) (w := w) t ⟨xs.toArray⟩ kh ((k : Nat) : Int) hu
  rw [if_pos ⟨zz12, by show (k : Int) ≤ ((xs.toArray.size : Nat) : Int); simp; omega⟩, extract_str] at hr
  have hr2 := run_sliceAt_str hu hr
  simp only [execOp, hs.eval hx', Option.map, hs.eval hh]
  simp [hr2, str]
theorem q_strLH {t : TypeId} {x l h : Operand} {kl kh : IntKind} {xs : List UInt8} {m k : Nat} (hu : P.underlying t = some .string) (hx : ev L x = some (str xs)) (hl : ev L l = some (.int kl ((m : Nat) : Int))) (hh : ev L h = some (.int kh ((k : Nat) : Int))) (hm : m ≤ k) (hk : k ≤ xs.length) :
    QOp P n R L (.slice t x (some l) (some h) none) (str ((xs.drop m).take (k - m))) := by
  intro d ty pos af g a w hs _
  have hx' : ev L x = some (.string ⟨xs.toArray⟩) := hx
  have hr := run_slice_string (P := P) w t ⟨xs.toArray⟩ kl kh ((m : Nat) : Int) ((k : Nat) : Int) hu zz12 zz12 (by show (k : Int) ≤ ((xs.toArray.size : Nat) : Int); simp; omega)
  rw [extract_str] at hr
  have hr2 := run_sliceAt_str hu hr
  simp only [execOp, hs.eval hx', Option.map, hs.eval hl, hs.eval hh]
  simp [hr2, str]
theorem q_strCat {t t' : TypeId} {x y : Operand} {xs ys : List UInt8} (hx : ev L x = some (str xs)) (hy : ev L y = some (str ys)) (h : xs.length + ys.length ≤ maxLen) : QOp P n R L (.binOp .add t x y t') (str (xs ++ ys)) := by
  intro d ty pos af g a w hs _
  have hx' : ev L x = some (.string ⟨xs.toArray⟩) := hx
  have hy' : ev L y = some (.string ⟨ys.toArray⟩) := hy
  have hsz : ¬ (9223372036854775807 : Int) < ((⟨xs.toArray⟩ : ByteArray).size : Int) + ((⟨ys.toArray⟩ : ByteArray).size : Int) := by
    show ¬ (9223372036854775807 : Int) < ((xs.toArray.size : Nat) : Int) + ((ys.toArray.size : Nat) : Int)
    simp only [maxLen] at h
    simp; omega
  have hap : (⟨xs.toArray⟩ : ByteArray) ++ ⟨ys.toArray⟩ = ⟨(xs ++ ys).toArray⟩ := by
    apply ByteArray.ext; simp
  simp only [execOp, hs.eval hx', hs.eval hy']
  have h2 : (binOp .add t (.string ⟨xs.toArray⟩) (.string ⟨ys.toArray⟩)).run P w = .ok (str (xs ++ ys)) w := by
    show (Op.stringOp .add ⟨xs.toArray⟩ ⟨ys.toArray⟩).run P w = _
    simp [Op.stringOp]
    rw [if_neg hsz, hap]; rfl
  simp [eqGuard, h2]
def GivesA {ι : Type} (w : World) (Es : List Ent) (p : ι → Prop) (V : ι → Value) (N : ι → List Ent) (e : Ending) (w' : World) : Prop := ∃ x, p x ∧ e = .returned (V x) ∧ Mem w (nums Es) (N x) [] w'
instance nop_givesA {fn : Func} {w : World} {ι : Type} {Es : List Ent} {p : ι → Prop} {V : ι → Value} {N : ι → List Ent} : NoP (bodyPost P fn (GivesA w Es p V N)) := nop_post fun c w' ⟨x, _, h, _⟩ => by cases h
theorem t_callA {k : FuncId} {args : Array Operand} {at_ : Array TypeId} {vs : List Value} {ι : Type} {p : ι → Prop} {V : ι → Value} {N : ι → List Ent}
    (hb : HasBody P k) (hv : evs L args.toList = some vs) (hc : ∀ w, Mem w0 Ln M S w → Mem w (nums M) M [] w → Calls P k vs.toArray w (GivesA w M p V N)) :
    TOpP P Q n (Mem w0 Ln M S) L (.call { callee := .value (.func k), args := args, argTypes := at_ }) ι p V (fun x => Mem w0 Ln (N x) []) := by
  have h : TOp P Q n (Mem w0 Ln M S) L (.call { callee := .value (.func k), args := args, argTypes := at_ }) { x : ι // p x } (fun x => V x.1) (fun x => Mem w0 Ln (N x.1) []) :=
    t_callG (cap := #[]) rfl hb hv fun w hm => by
      simp only [Array.append_empty]
      refine (hc w hm hm.base).mono ?_
      rintro en w' ⟨x, hp, rfl, h2⟩
      exact ⟨⟨x, hp⟩, rfl, hm.trans h2⟩
  exact h.rep fun x w h => ⟨x.1, x.2, rfl, h⟩
theorem t_callA1 {k : FuncId} {args : Array Operand} {at_ : Array TypeId} {vs : List Value} {ι : Type} {p : ι → Prop} {V : ι → Value} {N : ι → List Ent} {x0 : Ent} {Es : List Ent}
    (hb : HasBody P k) (hv : evs L args.toList = some vs) (hc : ∀ w, Mem w0 Ln (x0 :: Es) S w → Mem w (nums Es) Es [] w → Calls P k vs.toArray w (GivesA w Es p V N)) :
    TOpP P Q n (Mem w0 Ln (x0 :: Es) S) L (.call { callee := .value (.func k), args := args, argTypes := at_ }) ι p V (fun x => Mem w0 Ln (x0 :: N x) []) := by
  have h : TOp P Q n (Mem w0 Ln (x0 :: Es) S) L (.call { callee := .value (.func k), args := args, argTypes := at_ }) { x : ι // p x } (fun x => V x.1) (fun x => Mem w0 Ln (x0 :: N x.1) []) :=
    t_callG (cap := #[]) rfl hb hv fun w hm => by
      simp only [Array.append_empty]
      refine (hc w hm (hm.sub (.drop (Sub.refl _)) (Sub.refl _)).base).mono ?_
      rintro en w' ⟨x, hp, rfl, h2⟩
      exact ⟨⟨x, hp⟩, rfl, Mem.framed (X := [x0]) hm h2⟩
  exact h.rep fun x w h => ⟨x.1, x.2, rfl, h⟩
end
end Go.PL
