/- The rules of the logic once more, within a fence: an iterator's code, and the body of a range over a function. -/
import Derived.Test.YtoaeklbenmlooaaPLN
import Derived.OrdersIn
namespace Go.PL
set_option linter.unusedSimpArgs false
set_option linter.unusedVariables false
open Go Go.RowKit
class OpenC (F : Fence) : Prop where
  out : Open F
instance openC_wide : OpenC Fence.wide := ⟨open_wide⟩
instance openC_round {l : Nat} : OpenC (Fence.wide.inRound l) := ⟨open_round l⟩
section
variable {F : Fence} {P : Program} {n : Cx} {R : World → Prop} {L : Slots} {Q : Exit → Act → World → Prop} {ops : Array Oper} {rest : List Oper} {op : Op} {ty : TypeId} {pos : String} {af : Array Edge} {d : Tmp} {v : Value}
/-! ### Regions in the text's order, code -/
theorem wil_q [hF : OpenC F] (hop : QOp P n R L op v) (hd : Nat.blt d n.n = true) (next : WPLI F P ops Q n R ((d, v) :: L) rest) (hdf : ∀ c, op ≠ .defer c := by intro c h; cases h) :
    WPLI F P ops Q n R L (⟨some d, op, ty, pos, af, none⟩ :: rest) := wpli_q hF.out hop hd next hdf
theorem wil_q0 [hF : OpenC F] (hop : QOp P n R L op v) (next : WPLI F P ops Q n R L rest) (hdf : ∀ c, op ≠ .defer c := by intro c h; cases h) :
    WPLI F P ops Q n R L (⟨none, op, ty, pos, af, none⟩ :: rest) := wpli_t0 hF.out (hop.top (Q := Q)) (fun _ => next) hdf
theorem wil_t [hF : OpenC F] {ι : Type} {V : ι → Value} {R' : ι → World → Prop} (hop : TOp P Q n R L op ι V R') (hd : Nat.blt d n.n = true) (next : ∀ x, WPLI F P ops Q n (R' x) ((d, V x) :: L) rest) (hdf : ∀ c, op ≠ .defer c := by intro c h; cases h) :
    WPLI F P ops Q n R L (⟨some d, op, ty, pos, af, none⟩ :: rest) := wpli_t hF.out hop hd next hdf
theorem wil_t0 [hF : OpenC F] {ι : Type} {V : ι → Value} {R' : ι → World → Prop} (hop : TOp P Q n R L op ι V R') (next : ∀ x, WPLI F P ops Q n (R' x) L rest) (hdf : ∀ c, op ≠ .defer c := by intro c h; cases h) :
    WPLI F P ops Q n R L (⟨none, op, ty, pos, af, none⟩ :: rest) := wpli_t0 hF.out hop next hdf
theorem wil_tp [hF : OpenC F] {ι : Type} {p : ι → Prop} {V : ι → Value} {R' : ι → World → Prop} (hop : TOpP P Q n R L op ι p V R') (hd : Nat.blt d n.n = true) (next : ∀ x, p x → WPLI F P ops Q n (R' x) ((d, V x) :: L) rest) (hdf : ∀ c, op ≠ .defer c := by intro c h; cases h) :
    WPLI F P ops Q n R L (⟨some d, op, ty, pos, af, none⟩ :: rest) := wil_t hop.t hd (fun x => next x.1 x.2) hdf
theorem wil_on {d : Option Tmp} {j t : Nat} {b : Bool} (hj : (ops[j]?).bind (·.dst) = some t) (hv : get L t = some (.bool b)) (next : WPLI F P ops Q n R L (⟨d, op, ty, pos, af, none⟩ :: rest)) :
    WPLI F P ops Q n R L (⟨d, op, ty, pos, af, some (j, b)⟩ :: rest) := by
  intro a w hs hr
  have h := next a w hs hr
  have hy := yielded_of (ops := ops) hs hj hv
  unfold wpListIn at h ⊢
  simp only [Region.wanted, if_true] at h
  simp only [Region.wanted, hy, beq_self_eq_true, if_true]
  exact h
theorem wil_off [hF : OpenC F] {j t : Nat} {b : Bool} {v : Value} (hj : (ops[j]?).bind (·.dst) = some t) (hv : get L t = some v) (hbc : offV v b = true) (hd : Nat.blt d n.n = true) (next : WPLI F P ops Q n R ((d, undef) :: L) rest) :
    WPLI F P ops Q n R L (⟨some d, op, ty, pos, af, some (j, b)⟩ :: rest) := by
  intro a w hs hr
  have hy := yielded_off (ops := ops) hs hj hv hbc
  unfold wpListIn
  simp only [Region.wanted, hy, Bool.false_eq_true, if_false]
  exact ⟨fun f _ => hF.out.fn f, next _ _ (hs.put hd undef) hr⟩
theorem wil_nil (h : EX Q .normal n R L) : WPLI F P ops Q n R L [] := wpli_nil h
theorem get_same {t : Nat} {v : Value} (h : get L t = some v) : ∀ u x, get ((t, v) :: L) u = some x → get L u = some x := fun u x hu => by
  rw [get_cons] at hu
  split at hu
  · rename_i e; subst e; cases hu; exact h
  · exact hu
theorem get_same2 {t t' : Nat} {v : Value} (h : get L t = some v) (h' : get L t' = some v) : ∀ u x, get ((t, v) :: (t', v) :: L) u = some x → get L u = some x := fun u x hu => by
  rw [get_cons] at hu
  split at hu
  · rename_i e; subst e; cases hu; exact h
  · exact get_same h' u x hu
theorem wil_bool (t : Nat) {c : Bool} (h : get L t = some (.bool c)) (ht : c = true → WPLI F P ops Q n R ((t, .bool true) :: L) rest) (hf : c = false → WPLI F P ops Q n R ((t, .bool false) :: L) rest) : WPLI F P ops Q n R L rest := by
  cases c with
  | true => exact fun a w hs hr => ht rfl a w (hs.weaken (get_same h)) hr
  | false => exact fun a w hs hr => hf rfl a w (hs.weaken (get_same h)) hr
theorem wil_bool2 (t t' : Nat) {c : Bool} (h : get L t = some (.bool c)) (h' : get L t' = some (.bool c)) (ht : c = true → WPLI F P ops Q n R ((t, .bool true) :: (t', .bool true) :: L) rest) (hf : c = false → WPLI F P ops Q n R ((t, .bool false) :: (t', .bool false) :: L) rest) : WPLI F P ops Q n R L rest := by
  cases c with
  | true => exact fun a w hs hr => ht rfl a w (hs.weaken (get_same2 h h')) hr
  | false => exact fun a w hs hr => hf rfl a w (hs.weaken (get_same2 h h')) hr
theorem wil_re (t : Nat) {v v' : Value} (h : get L t = some v) (e : v = v') (next : WPLI F P ops Q n R ((t, v') :: L) rest) : WPLI F P ops Q n R L rest := by
  subst e
  refine fun a w hs hr => next a w (hs.weaken fun u v hu => ?_) hr
  rw [get_cons] at hu
  split at hu
  · rename_i e; subst e; cases hu; exact h
  · exact hu
theorem wic_region {id : Nat} {l : List Oper} (h : WPLI F P l.toArray Q n R L l) : WPCI F P Q n R L (.region id l.toArray false) := wpci_region h
theorem wic_seq {x y : Code} (h : WPCI F P (Exit.then (y.wpIn F 0 P Q) Q) n R L x) : WPCI F P Q n R L (.seq x y) := wpci_seq h
theorem wic_cond {c : Operand} {x y : Code} {b : Bool} (hb : ev L c = some (.bool b)) (ht : b = true → WPCI F P Q n R L x) (hf : b = false → WPCI F P Q n R L y) : WPCI F P Q n R L (.cond c x y) := wpci_cond hb ht hf
theorem wic_cond_t {c : Operand} {x y : Code} (hb : ev L c = some (.bool true)) (ht : WPCI F P Q n R L x) : WPCI F P Q n R L (.cond c x y) := wpci_cond hb (fun _ => ht) (fun h => by cases h)
theorem wic_cond_f {c : Operand} {x y : Code} (hb : ev L c = some (.bool false)) (hf : WPCI F P Q n R L y) : WPCI F P Q n R L (.cond c x y) := wpci_cond hb (fun h => by cases h) (fun _ => hf)
theorem wic_block {id : Nat} {c : Code} (h : WPCI F P (Exit.inBlock id Q) n R L c) : WPCI F P Q n R L (.block id c) := wpci_block h
theorem wic_skip (h : EX Q .normal n R L) : WPCI F P Q n R L .skip := wpci_skip h
theorem wic_exit {id : Nat} (h : EX Q (.exit id) n R L) : WPCI F P Q n R L (.exit id) := wpci_exit h
theorem wic_ret (h : EX Q .ret n R L) : WPCI F P Q n R L .ret := wpci_ret h
theorem eix_then {y : Code} (h : WPCI F P Q n R L y) : EX (Exit.then (y.wpIn F 0 P Q) Q) .normal n R L := exi_then h
theorem wic_cutc {x y : Code} (ι : Type) (Lc : Slots) (L' : ι → Slots → Slots) (R' : ι → World → Prop) (h1 : WPCI F P (Exit.then (Mid n (fun i => L' i Lc) R') Q) n R L x) (h2 : ∀ i, WPCI F P Q n (R' i) (L' i Lc) y) : WPCI F P Q n R L (.seq x y) := by
  refine wic_seq fun a w hs hr => wpIn_mono (h1 a w hs hr) ?_
  intro e a w h
  cases e with
  | normal => obtain ⟨i, h3, h4⟩ := h; exact h2 i a w h3 h4
  | _ => exact h

/-! ### Regions in an open order -/
variable {md : Region.Mode} {S : Array Bool → World → Prop} {R0 : World → Prop}
theorem YieldsIf.wpOpJ [hF : OpenC F] {S : World → Prop} {i : Nat} {o : Oper} {v : Value} {a : Act} (hi : ops[i]? = some o) (hdf : ∀ c, o.op ≠ .defer c) (hy : YieldsIf P ops S o v a)
    {K : Act → World → Prop} {w : World} (hS : S w) (h : K (a.put o.dst v) w) : wpOpIn F 0 P ops Q i K a w := by
  unfold Go.wpOpIn
  simp only [hi]
  rcases hy with ⟨hw, hv⟩ | ⟨hw, rfl⟩
  · simp only [hw, if_true, Oper.wpIn, Oper.semAt_eq _ _ _ hdf, hv w hS, Oper.uponIn]; exact ⟨fun f _ => hF.out.fn f, h⟩
  · simp only [hw, Bool.false_eq_true, if_false]; exact ⟨fun f _ => hF.out.fn f, h⟩
theorem wpOpIn_putIf [hF : OpenC F] {S : World → Prop} {j : Nat} {oi oj : Oper} {v : Value} (hj : ops[j]? = some oj) (hap : oi.apart ops oj = true)
    (hsi : ∀ cs b, oi.op ≠ .select cs b) (hsj : ∀ cs b, oj.op ≠ .select cs b) (hdj : ∀ c, oj.op ≠ .defer c)
    (hQ : ∀ c a w, Q (.panic c) (a.put oi.dst v) w → Q (.panic c) a w) {K : Act → World → Prop} {a : Act} {w : World}
    (hy : YieldsIf P ops S oi v a) (h : wpOpIn F 0 P ops Q j K (a.put oi.dst v) w) :
    wpOpIn F 0 P ops Q j (fun a' w' => YieldsIf P ops S oi v a' ∧ K (a'.put oi.dst v) w') a w := by
  obtain ⟨h1, h2, h3⟩ := Oper.apart_spec hap
  have keep : ∀ (a : Act), YieldsIf P ops S oi v a → ∀ u, YieldsIf P ops S oi v (a.put oj.dst u) := fun a hy u =>
    hy.of_same (execOp_put oi hsi a oj.dst u h3) (wanted_put oi a oj.dst u h3)
  unfold wpOpIn at *
  simp only [hj] at *
  rw [wanted_put oj a oi.dst v h1] at h
  split
  · rename_i hw
    simp only [hw, if_true] at h
    unfold Oper.wpIn at *
    refine ⟨fun f _ => hF.out.fn f, ?_⟩
    have h := h.2
    rw [Oper.semAt_eq _ _ _ hdj, execOp_put oj hsj a oi.dst v h1] at h
    rw [Oper.semAt_eq _ _ _ hdj]
    generalize (execOp a.eval oj).run P w = r at *
    cases r with
    | ok x w' =>
      cases x <;> simp only [Oper.uponIn] at h ⊢
      case value u => exact ⟨keep a hy u, by rw [← Act.put_comm a v u h2]; exact h⟩
      case skip => exact ⟨keep a hy _, by rw [← Act.put_comm a v undef h2]; exact h⟩
      case defer d =>
        have keepD : YieldsIf P ops S oi v { a with defers := d :: a.defers } := hy.of_same rfl rfl
        refine ⟨keep _ keepD _, ?_⟩
        rw [← Act.put_comm _ v undef h2, ← Act.put_defers]
        exact h
      case enter f args =>
        refine ⟨h.1, CallsIn.mono h.2 fun e w'' he => ?_⟩
        cases e with
        | returned u => exact ⟨keep a hy u, by rw [← Act.put_comm a v u h2]; exact he⟩
        | panicked c => exact hQ _ _ _ he
        | outgrown => exact he
      case row row args => exact ⟨h.1, RowsIn.mono h.2 fun u w'' he => ⟨keep a hy u, by rw [← Act.put_comm a v u h2]; exact he⟩⟩
      case round l f tmps assign body =>
        refine ⟨h.1, RoundIn.mono h.2 fun e w'' he => ?_⟩
        cases e with
        | returned u => exact ⟨keep a hy u, by rw [← Act.put_comm a v u h2]; exact he⟩
        | panicked c => exact hQ _ _ _ he
        | outgrown => exact he
    | halt x w' =>
      cases x <;> simp only [Oper.uponIn] at h ⊢
      case panic u => exact hQ _ _ _ h
  · rename_i hw
    simp only [hw] at h
    exact ⟨fun f _ => hF.out.fn f, keep a hy _, by rw [← Act.put_comm a v undef h2]; exact h.2⟩
def wpAnyJ (F : Fence) (P : Program) (md : Region.Mode) (ops : Array Oper) (Q : Exit → Act → World → Prop) (S : Array Bool → World → Prop) : Nat → Array Bool → Act → World → Prop
  | 0, listed, a, w => Region.ready md ops listed = [] ∧ Q .normal a w
  | fuel + 1, listed, a, w =>
    (Region.ready md ops listed = [] → Q .normal a w) ∧
    ∀ i ∈ Region.ready md ops listed, wpOpIn F 0 P ops Q i (fun a' w' => S (listed.setIfInBounds i true) w' ∧ wpAnyJ F P md ops Q S fuel (listed.setIfInBounds i true) a' w') a w
theorem wpAnyIn_of_J : ∀ (fuel : Nat) (listed : Array Bool) (a : Act) (w : World), wpAnyJ F P md ops Q S fuel listed a w → wpAnyIn F 0 P md ops Q fuel listed a w
  | 0, _, _, _, h => h
  | fuel + 1, _, _, _, h => ⟨h.1, fun i hi => wpOpIn_mono (fun a' w' h' => wpAnyIn_of_J fuel _ a' w' h'.2) (h.2 i hi)⟩
/-- Operation i, which yields v where R0 holds, may be taken first, if the first store waits for it. -/
theorem wpAnyJ_first [hF : OpenC F] {i k : Nat} {oi : Oper} {v : Value} (hi : ops[i]? = some oi) (hdf : ∀ (j : Nat) (o : Oper), ops[j]? = some o → ∀ c, o.op ≠ .defer c) (hik : i ≠ k) (hsel : ∀ (j : Nat) (o : Oper) cs b, ops[j]? = some o → o.op ≠ .select cs b)
    (hdep : ∀ ok, ops[k]? = some ok → ∃ e ∈ ok.after, Region.binds md e = true ∧ e.on = i)
    (hQ : ∀ c a w, Q (.panic c) (a.put oi.dst v) w → Q (.panic c) a w) :
    ∀ (fuel : Nat) (listed : Array Bool) (a : Act) (w : World),
      (∀ j oj, ops[j]? = some oj → j ≠ i → listed.getD j true = false → (∀ e ∈ oj.after, Region.binds md e = true → e.on ≠ i) → oi.apart ops oj = true) →
      i ∈ Region.ready md ops listed → listed.getD k false = false → YieldsIf P ops R0 oi v a → SK k R0 listed w →
      wpAnyJ F P md ops Q (SK k R0) fuel (listed.setIfInBounds i true) (a.put oi.dst v) w → wpAnyJ F P md ops Q (SK k R0) (fuel + 1) listed a w := by
  intro fuel
  induction fuel with
  | zero =>
    intro listed a w _ hr hk hy hS H
    have hR : R0 w := hS.resolve_left (by simp [hk])
    refine ⟨fun h => (by rw [h] at hr; cases hr), fun j hj => ?_⟩
    by_cases hji : j = i
    · subst hji; exact YieldsIf.wpOpJ hi (hdf _ _ hi) hy hR ⟨.inr hR, H⟩
    · have := ready_mono hj hji
      rw [H.1] at this
      cases this
  | succ fuel ih =>
    intro listed a w hfree hr hk hy hS H
    have hR : R0 w := hS.resolve_left (by simp [hk])
    refine ⟨fun h => (by rw [h] at hr; cases hr), fun j hj => ?_⟩
    by_cases hji : j = i
    · subst hji; exact YieldsIf.wpOpJ hi (hdf _ _ hi) hy hR ⟨.inr hR, H⟩
    · have h1 := H.2 j (ready_mono hj hji)
      obtain ⟨hjun, oj, hoj, hall⟩ := mem_ready.1 hj
      have hnot : ∀ e ∈ oj.after, Region.binds md e = true → e.on ≠ i := fun e he hb heq => by
        have h1 := hall e he hb
        have h0 := (mem_ready.1 hr).1
        rw [heq] at h1
        rcases Nat.lt_or_ge i listed.size with h' | h'
        · simp [h'] at h0 h1; rw [h0] at h1; cases h1
        · simp [Array.getElem?_eq_none h'] at h1
      have hjk : j ≠ k := fun e => by
        subst e
        obtain ⟨e, he, hb, heq⟩ := hdep oj hoj
        exact hnot e he hb heq
      have h2 := wpOpIn_putIf hoj (hfree j oj hoj hji hjun hnot) (fun cs b => hsel i oi cs b hi) (fun cs b => hsel j oj cs b hoj) (hdf j oj hoj) hQ hy h1
      have hfree' : ∀ m om, ops[m]? = some om → m ≠ i → (listed.setIfInBounds j true).getD m true = false →
          (∀ e ∈ om.after, Region.binds md e = true → e.on ≠ i) → oi.apart ops om = true := fun m om hm hmi hun hno => by
        refine hfree m om hm hmi ?_ hno
        by_cases hjm : j = m
        · subst hjm; exact hjun
        · rw [getD_set_ne true hjm] at hun; exact hun
      refine wpOpIn_mono (fun a' w' h3 => ?_) h2
      have hS' : SK k R0 (listed.setIfInBounds j true) w' := by
        rcases h3.2.1 with h | h
        · refine .inl ?_
          rw [getD_set_ne' hjk, getD_set_ne' hik] at h
          rw [getD_set_ne' hjk]; exact h
        · exact .inr h
      refine ⟨hS', ih (listed.setIfInBounds j true) a' w' hfree' (ready_mono hr (Ne.symm hji)) (by rw [getD_set_ne' hjk]; exact hk) h3.1 hS' ?_⟩
      rw [Array.setIfInBounds_comm _ _ hji]
      exact h3.2.2

theorem wpAnyJ_first' [hF : OpenC F] {i k : Nat} {oi : Oper} {v : Value} (hi : ops[i]? = some oi) (hdf : ∀ (j : Nat) (o : Oper), ops[j]? = some o → ∀ c, o.op ≠ .defer c) (hik : i ≠ k) (hsel : ∀ (j : Nat) (o : Oper) cs b, ops[j]? = some o → o.op ≠ .select cs b)
    (hQ : ∀ c a w, Q (.panic c) (a.put oi.dst v) w → Q (.panic c) a w) :
    ∀ (fuel : Nat) (listed : Array Bool) (a : Act) (w : World),
      (∀ j oj, ops[j]? = some oj → j ≠ i → listed.getD j true = false → (∀ e ∈ oj.after, Region.binds md e = true → e.on ≠ i) → oi.apart ops oj = true) →
      i ∈ Region.ready md ops listed → YieldsIf P ops (fun _ => True) oi v a → SK k R0 listed w →
      wpAnyJ F P md ops Q (SK k R0) fuel (listed.setIfInBounds i true) (a.put oi.dst v) w → wpAnyJ F P md ops Q (SK k R0) (fuel + 1) listed a w := by
  intro fuel
  have hup : ∀ (l : Array Bool) w, SK k R0 l w → SK k R0 (l.setIfInBounds i true) w := fun l w h => h.imp (fun h => by rw [getD_set_ne' hik]; exact h) id
  induction fuel with
  | zero =>
    intro listed a w _ hr hy hS H
    refine ⟨fun h => (by rw [h] at hr; cases hr), fun j hj => ?_⟩
    by_cases hji : j = i
    · subst hji; exact YieldsIf.wpOpJ hi (hdf _ _ hi) hy trivial ⟨hup _ _ hS, H⟩
    · have := ready_mono hj hji
      rw [H.1] at this
      cases this
  | succ fuel ih =>
    intro listed a w hfree hr hy hS H
    refine ⟨fun h => (by rw [h] at hr; cases hr), fun j hj => ?_⟩
    by_cases hji : j = i
    · subst hji; exact YieldsIf.wpOpJ hi (hdf _ _ hi) hy trivial ⟨hup _ _ hS, H⟩
    · have h1 := H.2 j (ready_mono hj hji)
      obtain ⟨hjun, oj, hoj, hall⟩ := mem_ready.1 hj
      have hnot : ∀ e ∈ oj.after, Region.binds md e = true → e.on ≠ i := fun e he hb heq => by
        have h1 := hall e he hb
        have h0 := (mem_ready.1 hr).1
        rw [heq] at h1
        rcases Nat.lt_or_ge i listed.size with h' | h'
        · simp [h'] at h0 h1; rw [h0] at h1; cases h1
        · simp [Array.getElem?_eq_none h'] at h1
      have h2 := wpOpIn_putIf hoj (hfree j oj hoj hji hjun hnot) (fun cs b => hsel i oi cs b hi) (fun cs b => hsel j oj cs b hoj) (hdf j oj hoj) hQ hy h1
      have hfree' : ∀ m om, ops[m]? = some om → m ≠ i → (listed.setIfInBounds j true).getD m true = false →
          (∀ e ∈ om.after, Region.binds md e = true → e.on ≠ i) → oi.apart ops om = true := fun m om hm hmi hun hno => by
        refine hfree m om hm hmi ?_ hno
        by_cases hjm : j = m
        · subst hjm; exact hjun
        · rw [getD_set_ne true hjm] at hun; exact hun
      refine wpOpIn_mono (fun a' w' h3 => ?_) h2
      have hS' : SK k R0 (listed.setIfInBounds j true) w' := by
        rcases h3.2.1 with h | h
        · refine .inl ?_
          by_cases hjk : j = k
          · subst hjk
            rw [Array.setIfInBounds_comm _ _ (Ne.symm hji), getD_set_ne' hik] at h
            exact h
          · rw [getD_set_ne' hjk, getD_set_ne' hik] at h
            rw [getD_set_ne' hjk]; exact h
        · exact .inr h
      refine ⟨hS', ih (listed.setIfInBounds j true) a' w' hfree' (ready_mono hr (Ne.symm hji)) h3.1 hS' ?_⟩
      rw [Array.setIfInBounds_comm _ _ hji]
      exact h3.2.2

theorem wpAnyJ_firstB [hF : OpenC F] {i k : Nat} {oi : Oper} {v : Value} (B : List Nat) (hi : ops[i]? = some oi) (hdf : ∀ (j : Nat) (o : Oper), ops[j]? = some o → ∀ c, o.op ≠ .defer c) (hik : i ≠ k) (hsel : ∀ (j : Nat) (o : Oper) cs b, ops[j]? = some o → o.op ≠ .select cs b)
    (hk : k ∈ B) (hB : ∀ j oj, j ∈ B → ops[j]? = some oj → ∃ e ∈ oj.after, Region.binds md e = true ∧ (e.on = i ∨ e.on ∈ B)) (hiB : i ∉ B)
    (hQ : ∀ c a w, Q (.panic c) (a.put oi.dst v) w → Q (.panic c) a w) :
    ∀ (fuel : Nat) (listed : Array Bool) (a : Act) (w : World),
      (∀ j oj, ops[j]? = some oj → j ≠ i → listed.getD j true = false → (∀ e ∈ oj.after, Region.binds md e = true → e.on ≠ i) → oi.apart ops oj = true) →
      i ∈ Region.ready md ops listed → (∀ j ∈ B, listed.getD j true = false) → YieldsIf P ops R0 oi v a → SK k R0 listed w →
      wpAnyJ F P md ops Q (SK k R0) fuel (listed.setIfInBounds i true) (a.put oi.dst v) w → wpAnyJ F P md ops Q (SK k R0) (fuel + 1) listed a w := by
  have hkf : ∀ listed : Array Bool, (∀ j ∈ B, listed.getD j true = false) → listed.getD k false = false := fun listed h => by
    have := h k hk
    rcases Nat.lt_or_ge k listed.size with h' | h'
    · simpa [h'] using this
    · simp [Array.getElem?_eq_none h'] at this
  intro fuel
  induction fuel with
  | zero =>
    intro listed a w _ hr hun hy hS H
    have hR : R0 w := hS.resolve_left (by simp [hkf _ hun])
    refine ⟨fun h => (by rw [h] at hr; cases hr), fun j hj => ?_⟩
    by_cases hji : j = i
    · subst hji; exact YieldsIf.wpOpJ hi (hdf _ _ hi) hy hR ⟨.inr hR, H⟩
    · have := ready_mono hj hji
      rw [H.1] at this
      cases this
  | succ fuel ih =>
    intro listed a w hfree hr hun hy hS H
    have hR : R0 w := hS.resolve_left (by simp [hkf _ hun])
    refine ⟨fun h => (by rw [h] at hr; cases hr), fun j hj => ?_⟩
    by_cases hji : j = i
    · subst hji; exact YieldsIf.wpOpJ hi (hdf _ _ hi) hy hR ⟨.inr hR, H⟩
    · have h1 := H.2 j (ready_mono hj hji)
      obtain ⟨hjun, oj, hoj, hall⟩ := mem_ready.1 hj
      have und : ∀ m, listed.getD m true = false → listed[m]? = some true → False := fun m h0 h1 => by
        rcases Nat.lt_or_ge m listed.size with h' | h'
        · simp [h'] at h0 h1; rw [h0] at h1; cases h1
        · simp [Array.getElem?_eq_none h'] at h1
      have hnot : ∀ e ∈ oj.after, Region.binds md e = true → e.on ≠ i := fun e he hb heq => by
        have h1 := hall e he hb
        have h0 := (mem_ready.1 hr).1
        rw [heq] at h1
        rcases Nat.lt_or_ge i listed.size with h' | h'
        · simp [h'] at h0 h1; rw [h0] at h1; cases h1
        · simp [Array.getElem?_eq_none h'] at h1
      have hjB : j ∉ B := fun hjB => by
        obtain ⟨e, he, hb, heq⟩ := hB j oj hjB hoj
        rcases heq with heq | heq
        · exact hnot e he hb heq
        · have h1 := hall e he hb
          have h0 := hun e.on heq
          rcases Nat.lt_or_ge e.on listed.size with h' | h'
          · simp [h'] at h0 h1; rw [h0] at h1; cases h1
          · simp [Array.getElem?_eq_none h'] at h0
      have hjk : j ≠ k := fun e => hjB (e ▸ hk)
      have h2 := wpOpIn_putIf hoj (hfree j oj hoj hji hjun hnot) (fun cs b => hsel i oi cs b hi) (fun cs b => hsel j oj cs b hoj) (hdf j oj hoj) hQ hy h1
      have hfree' : ∀ m om, ops[m]? = some om → m ≠ i → (listed.setIfInBounds j true).getD m true = false →
          (∀ e ∈ om.after, Region.binds md e = true → e.on ≠ i) → oi.apart ops om = true := fun m om hm hmi hun' hno => by
        refine hfree m om hm hmi ?_ hno
        by_cases hjm : j = m
        · subst hjm; exact hjun
        · rw [getD_set_ne true hjm] at hun'; exact hun'
      refine wpOpIn_mono (fun a' w' h3 => ?_) h2
      have hS' : SK k R0 (listed.setIfInBounds j true) w' := by
        rcases h3.2.1 with h | h
        · refine .inl ?_
          rw [getD_set_ne' hjk, getD_set_ne' hik] at h
          rw [getD_set_ne' hjk]; exact h
        · exact .inr h
      refine ⟨hS', ih (listed.setIfInBounds j true) a' w' hfree' (ready_mono hr (Ne.symm hji)) (fun m hm => ?_) h3.1 hS' ?_⟩
      · have hjm : j ≠ m := fun e => hjB (e ▸ hm)
        rw [getD_set_ne true hjm]; exact hun m hm
      · rw [Array.setIfInBounds_comm _ _ hji]
        exact h3.2.2

variable {k fuel : Nat} {listed : Array Bool} {g : Option (Nat × Bool)}
def noDef (ops : Array Oper) : Bool := ops.all fun o => match o.op with
  | .defer _ => false
  | _ => true
theorem noDef_spec (h : noDef ops = true) : ∀ (j : Nat) (o : Oper), ops[j]? = some o → ∀ c, o.op ≠ .defer c := fun j o ho c e => by
  have := Array.all_eq_true'.1 h o (Array.mem_of_getElem? ho)
  rw [e] at this; cases this
def WPDI (F : Fence) (P : Program) (ops : Array Oper) (Q : Exit → Act → World → Prop) (n : Cx) (k : Nat) (R0 R : World → Prop) (L : Slots) (fuel : Nat) (listed : Array Bool) : Prop :=
  ∀ a w, Sl n a L → R w → wpAnyJ F P .any ops Q (SK k R0) fuel listed a w
theorem wic_draw {id : Nat} {l : List Oper} (k : Nat) (hm : P.follows .mixedOrders = true) (hdr : ∀ w : World, R w → R { w with drawn := w.drawn + 1 })
    (h : WPDI F P l.toArray Q n k R R L l.length (Array.replicate l.length false)) : WPCI F P Q n R L (.region id l.toArray true) := by
  intro a w hs hr
  refine wpIn_region_any hm (wpAnyIn_of_J (S := SK k R) _ _ _ _ ?_)
  have := h a { w with drawn := w.drawn + 1 } hs (hdr w hr)
  simpa using this
theorem wid_q [hF : OpenC F] (i : Nat) (hi : ops[i]? = some ⟨some d, op, ty, pos, af, g⟩) (hc : (chk ops listed i && waits ops k i && !Nat.beq i k && !listed.getD k false && noDef ops) = true) (hg : Wants ops L g)
    (hop : QOp P n R0 L op v) (hd : Nat.blt d n.n = true) [hP : NoP Q] (hR : ∀ w, R w → R0 w)
    (next : WPDI F P ops Q n k R0 R ((d, v) :: L) fuel (listed.setIfInBounds i true)) : WPDI F P ops Q n k R0 R L (fuel + 1) listed := by
  intro a w hs hr
  simp only [Bool.and_eq_true, Bool.not_eq_true'] at hc
  obtain ⟨⟨⟨⟨hc, hw⟩, hik⟩, hk⟩, hnd⟩ := hc
  obtain ⟨hsel, hf, hrd⟩ := chk_spec hc
  have hik' : i ≠ k := fun e => by subst e; simp [Nat.beq_refl] at hik
  exact wpAnyJ_first (R0 := R0) hi (noDef_spec hnd) hik' (Region.noSelect_spec hsel) (waits_spec hw) (fun c a w h => hP.out _ _ _ _ h) fuel listed a w (Region.free_spec hi hf) hrd hk
    (.inl ⟨hg.spec hs, fun w' h' => hop _ _ _ _ _ a w' hs h'⟩) (.inr (hR w hr)) (next _ _ (hs.put hd v) hr)
theorem wid_qB [hF : OpenC F] (i : Nat) (B : List Nat) (hi : ops[i]? = some ⟨some d, op, ty, pos, af, g⟩) (hc : (chk ops listed i && !Nat.beq i k && chkB ops listed i k B && noDef ops) = true) (hg : Wants ops L g)
    (hop : QOp P n R0 L op v) (hd : Nat.blt d n.n = true) [hP : NoP Q] (hR : ∀ w, R w → R0 w)
    (next : WPDI F P ops Q n k R0 R ((d, v) :: L) fuel (listed.setIfInBounds i true)) : WPDI F P ops Q n k R0 R L (fuel + 1) listed := by
  intro a w hs hr
  simp only [Bool.and_eq_true, Bool.not_eq_true'] at hc
  obtain ⟨⟨⟨hc, hik⟩, hcB⟩, hnd⟩ := hc
  obtain ⟨hsel, hf, hrd⟩ := chk_spec hc
  obtain ⟨b1, b2, b3, b4⟩ := chkB_spec hcB
  have hik' : i ≠ k := fun e => by subst e; simp [Nat.beq_refl] at hik
  exact wpAnyJ_firstB (R0 := R0) B hi (noDef_spec hnd) hik' (Region.noSelect_spec hsel) b1 b4 b2 (fun c a w h => hP.out _ _ _ _ h) fuel listed a w (Region.free_spec hi hf) hrd b3
    (.inl ⟨hg.spec hs, fun w' h' => hop _ _ _ _ _ a w' hs h'⟩) (.inr (hR w hr)) (next _ _ (hs.put hd v) hr)
theorem wid_p [hF : OpenC F] (i : Nat) (hi : ops[i]? = some ⟨some d, op, ty, pos, af, g⟩) (hc : (chk ops listed i && !Nat.beq i k && noDef ops) = true) (hg : Wants ops L g)
    (hop : QOp P n (fun _ => True) L op v) (hd : Nat.blt d n.n = true) [hP : NoP Q] (hR : ∀ w, R w → SK k R0 listed w)
    (next : WPDI F P ops Q n k R0 R ((d, v) :: L) fuel (listed.setIfInBounds i true)) : WPDI F P ops Q n k R0 R L (fuel + 1) listed := by
  intro a w hs hr
  simp only [Bool.and_eq_true, Bool.not_eq_true'] at hc
  obtain ⟨⟨hc, hik⟩, hnd⟩ := hc
  obtain ⟨hsel, hf, hrd⟩ := chk_spec hc
  have hik' : i ≠ k := fun e => by subst e; simp [Nat.beq_refl] at hik
  exact wpAnyJ_first' (R0 := R0) hi (noDef_spec hnd) hik' (Region.noSelect_spec hsel) (fun c a w h => hP.out _ _ _ _ h) fuel listed a w (Region.free_spec hi hf) hrd
    (.inl ⟨hg.spec hs, fun w' h' => hop _ _ _ _ _ a w' hs h'⟩) (hR w hr) (next _ _ (hs.put hd v) hr)
theorem wid_off [hF : OpenC F] (i : Nat) (hi : ops[i]? = some ⟨some d, op, ty, pos, af, g⟩) (hc : (chk ops listed i && !Nat.beq i k && noDef ops) = true) (hg : WantsNot ops L g)
    (hd : Nat.blt d n.n = true) [hP : NoP Q] (hR : ∀ w, R w → SK k R0 listed w)
    (next : WPDI F P ops Q n k R0 R ((d, undef) :: L) fuel (listed.setIfInBounds i true)) : WPDI F P ops Q n k R0 R L (fuel + 1) listed := by
  intro a w hs hr
  simp only [Bool.and_eq_true, Bool.not_eq_true'] at hc
  obtain ⟨⟨hc, hik⟩, hnd⟩ := hc
  obtain ⟨hsel, hf, hrd⟩ := chk_spec hc
  have hik' : i ≠ k := fun e => by subst e; simp [Nat.beq_refl] at hik
  exact wpAnyJ_first' (R0 := R0) hi (noDef_spec hnd) hik' (Region.noSelect_spec hsel) (fun c a w h => hP.out _ _ _ _ h) fuel listed a w (Region.free_spec hi hf) hrd
    (.inr ⟨hg.spec hs, rfl⟩) (hR w hr) (next _ _ (hs.put hd undef) hr)
/-- Operation i is the one that comes up. -/
def WPDAI (F : Fence) (P : Program) (ops : Array Oper) (Q : Exit → Act → World → Prop) (n : Cx) (k : Nat) (R0 R : World → Prop) (L : Slots) (fuel : Nat) (listed : Array Bool) (i : Nat) : Prop :=
  ∀ a w, Sl n a L → R w → wpOpIn F 0 P ops Q i (fun a' w' => SK k R0 (listed.setIfInBounds i true) w' ∧ wpAnyJ F P .any ops Q (SK k R0) fuel (listed.setIfInBounds i true) a' w') a w
theorem wid_one (i : Nat) (hr : Region.ready .any ops listed = [i]) (h1 : WPDAI F P ops Q n k R0 R L fuel listed i) : WPDI F P ops Q n k R0 R L (fuel + 1) listed := by
  intro a w hs hw
  refine ⟨fun h0 => absurd (hr.symm.trans h0) (by simp), fun m hm => ?_⟩
  rw [hr] at hm
  simp only [List.mem_cons, List.not_mem_nil, or_false] at hm
  subst hm
  exact h1 a w hs hw
theorem wid_two (i j : Nat) (hr : Region.ready .any ops listed = [i, j]) (h1 : WPDAI F P ops Q n k R0 R L fuel listed i) (h2 : WPDAI F P ops Q n k R0 R L fuel listed j) : WPDI F P ops Q n k R0 R L (fuel + 1) listed := by
  intro a w hs hw
  refine ⟨fun h0 => absurd (hr.symm.trans h0) (by simp), fun m hm => ?_⟩
  rw [hr] at hm
  simp only [List.mem_cons, List.not_mem_nil, or_false] at hm
  rcases hm with rfl | rfl
  · exact h1 a w hs hw
  · exact h2 a w hs hw
theorem wid_three (i j l : Nat) (hr : Region.ready .any ops listed = [i, j, l]) (h1 : WPDAI F P ops Q n k R0 R L fuel listed i) (h2 : WPDAI F P ops Q n k R0 R L fuel listed j) (h3 : WPDAI F P ops Q n k R0 R L fuel listed l) : WPDI F P ops Q n k R0 R L (fuel + 1) listed := by
  intro a w hs hw
  refine ⟨fun h0 => absurd (hr.symm.trans h0) (by simp), fun m hm => ?_⟩
  rw [hr] at hm
  simp only [List.mem_cons, List.not_mem_nil, or_false] at hm
  rcases hm with rfl | rfl | rfl
  · exact h1 a w hs hw
  · exact h2 a w hs hw
  · exact h3 a w hs hw
theorem wia_t [hF : OpenC F] {ι : Type} {V : ι → Value} {R' : ι → World → Prop} (i : Nat) (hi : ops[i]? = some ⟨some d, op, ty, pos, af, g⟩) (hg : Wants ops L g)
    (hop : TOp P Q n R L op ι V R') (hd : Nat.blt d n.n = true) (hS : ∀ x w, R' x w → SK k R0 (listed.setIfInBounds i true) w)
    (next : ∀ x, WPDI F P ops Q n k R0 (R' x) ((d, V x) :: L) fuel (listed.setIfInBounds i true)) (hdf : ∀ c, op ≠ .defer c := by intro c h; cases h) : WPDAI F P ops Q n k R0 R L fuel listed i := by
  intro a w hs hw
  unfold wpOpIn
  simp only [hi, hg.spec hs, if_true]
  exact wpIn_of_wp hF.out hdf (hop _ _ _ _ _ a w _ hs hw fun x w' h' => ⟨hS x w' h', next x _ _ (hs.put hd (V x)) h'⟩)
theorem wia_tp [hF : OpenC F] {ι : Type} {p : ι → Prop} {V : ι → Value} {R' : ι → World → Prop} (i : Nat) (hi : ops[i]? = some ⟨some d, op, ty, pos, af, g⟩) (hg : Wants ops L g)
    (hop : TOpP P Q n R L op ι p V R') (hd : Nat.blt d n.n = true) (hS : ∀ x w, R' x w → SK k R0 (listed.setIfInBounds i true) w)
    (next : ∀ x, p x → WPDI F P ops Q n k R0 (R' x) ((d, V x) :: L) fuel (listed.setIfInBounds i true)) (hdf : ∀ c, op ≠ .defer c := by intro c h; cases h) : WPDAI F P ops Q n k R0 R L fuel listed i :=
  wia_t i hi hg hop.t hd (fun x => hS x.1) (fun x => next x.1 x.2) hdf
theorem wia_t0 [hF : OpenC F] {ι : Type} {V : ι → Value} {R' : ι → World → Prop} (i : Nat) (hi : ops[i]? = some ⟨none, op, ty, pos, af, g⟩) (hg : Wants ops L g)
    (hop : TOp P Q n R L op ι V R') (hS : ∀ x w, R' x w → SK k R0 (listed.setIfInBounds i true) w)
    (next : ∀ x, WPDI F P ops Q n k R0 (R' x) L fuel (listed.setIfInBounds i true)) (hdf : ∀ c, op ≠ .defer c := by intro c h; cases h) : WPDAI F P ops Q n k R0 R L fuel listed i := by
  intro a w hs hw
  unfold wpOpIn
  simp only [hi, hg.spec hs, if_true]
  exact wpIn_of_wp hF.out hdf (hop _ _ _ _ _ a w _ hs hw fun x w' h' => ⟨hS x w' h', next x _ _ hs h'⟩)
theorem wid_t [hF : OpenC F] {ι : Type} {V : ι → Value} {R' : ι → World → Prop} (i : Nat) (hi : ops[i]? = some ⟨some d, op, ty, pos, af, g⟩) (hr : Region.ready .any ops listed = [i]) (hg : Wants ops L g)
    (hop : TOp P Q n R L op ι V R') (hd : Nat.blt d n.n = true) (hS : ∀ x w, R' x w → SK k R0 (listed.setIfInBounds i true) w)
    (next : ∀ x, WPDI F P ops Q n k R0 (R' x) ((d, V x) :: L) fuel (listed.setIfInBounds i true)) (hdf : ∀ c, op ≠ .defer c := by intro c h; cases h) : WPDI F P ops Q n k R0 R L (fuel + 1) listed := wid_one i hr (wia_t i hi hg hop hd hS next hdf)
theorem wid_tp [hF : OpenC F] {ι : Type} {p : ι → Prop} {V : ι → Value} {R' : ι → World → Prop} (i : Nat) (hi : ops[i]? = some ⟨some d, op, ty, pos, af, g⟩) (hr : Region.ready .any ops listed = [i]) (hg : Wants ops L g)
    (hop : TOpP P Q n R L op ι p V R') (hd : Nat.blt d n.n = true) (hS : ∀ x w, R' x w → SK k R0 (listed.setIfInBounds i true) w)
    (next : ∀ x, p x → WPDI F P ops Q n k R0 (R' x) ((d, V x) :: L) fuel (listed.setIfInBounds i true)) (hdf : ∀ c, op ≠ .defer c := by intro c h; cases h) : WPDI F P ops Q n k R0 R L (fuel + 1) listed := wid_one i hr (wia_tp i hi hg hop hd hS next hdf)
theorem wid_t0 [hF : OpenC F] {ι : Type} {V : ι → Value} {R' : ι → World → Prop} (i : Nat) (hi : ops[i]? = some ⟨none, op, ty, pos, af, g⟩) (hr : Region.ready .any ops listed = [i]) (hg : Wants ops L g)
    (hop : TOp P Q n R L op ι V R') (hS : ∀ x w, R' x w → SK k R0 (listed.setIfInBounds i true) w)
    (next : ∀ x, WPDI F P ops Q n k R0 (R' x) L fuel (listed.setIfInBounds i true)) (hdf : ∀ c, op ≠ .defer c := by intro c h; cases h) : WPDI F P ops Q n k R0 R L (fuel + 1) listed := wid_one i hr (wia_t0 i hi hg hop hS next hdf)
theorem wid_off1 [hF : OpenC F] (i : Nat) (hi : ops[i]? = some ⟨some d, op, ty, pos, af, g⟩) (hr : Region.ready .any ops listed = [i]) (hg : WantsNot ops L g)
    (hd : Nat.blt d n.n = true) (hS : ∀ w, R w → SK k R0 (listed.setIfInBounds i true) w)
    (next : WPDI F P ops Q n k R0 R ((d, undef) :: L) fuel (listed.setIfInBounds i true)) : WPDI F P ops Q n k R0 R L (fuel + 1) listed := by
  refine wid_one i hr fun a w hs hw => ?_
  unfold wpOpIn
  simp only [hi, hg.spec hs, Bool.false_eq_true, if_false]
  exact ⟨fun f _ => hF.out.fn f, hS w hw, next _ _ (hs.put hd undef) hw⟩
theorem wpd_off1 (i : Nat) (hi : ops[i]? = some ⟨some d, op, ty, pos, af, g⟩) (hr : Region.ready .any ops listed = [i]) (hg : WantsNot ops L g)
    (hd : Nat.blt d n.n = true) (hS : ∀ w, R w → SK k R0 (listed.setIfInBounds i true) w)
    (next : WPD P ops Q n k R0 R ((d, undef) :: L) fuel (listed.setIfInBounds i true)) : WPD P ops Q n k R0 R L (fuel + 1) listed := by
  intro a w hs hw
  refine wpAnyI_one hr ?_
  unfold wpOp
  simp only [hi, hg.spec hs, Bool.false_eq_true, if_false]
  exact ⟨hS w hw, next _ _ (hs.put hd undef) hw⟩
theorem wid_done (hr : Region.ready .any ops listed = []) (h : EX Q .normal n R L) : WPDI F P ops Q n k R0 R L fuel listed := by
  intro a w hs hw
  cases fuel with
  | zero => exact ⟨hr, h a w hs hw⟩
  | succ f => exact ⟨fun _ => h a w hs hw, fun i hi => by rw [hr] at hi; cases hi⟩
theorem wid_weaken {R1 : World → Prop} {L1 : Slots} (hl : ∀ u v, get L1 u = some v → get L u = some v) (next : WPDI F P ops Q n k R0 R L1 fuel listed) : WPDI F P ops Q n k R0 R L fuel listed := fun a w hs hr => next a w (hs.weaken hl) hr
theorem wid_bool (t : Nat) {c : Bool} (h : get L t = some (.bool c)) (ht : c = true → WPDI F P ops Q n k R0 R ((t, .bool true) :: L) fuel listed) (hf : c = false → WPDI F P ops Q n k R0 R ((t, .bool false) :: L) fuel listed) :
    WPDI F P ops Q n k R0 R L fuel listed := by
  cases c with
  | true => exact fun a w hs hr => ht rfl a w (hs.weaken (get_same h)) hr
  | false => exact fun a w hs hr => hf rfl a w (hs.weaken (get_same h)) hr
theorem wid_bool2 (t t' : Nat) {c : Bool} (h : get L t = some (.bool c)) (h' : get L t' = some (.bool c)) (ht : c = true → WPDI F P ops Q n k R0 R ((t, .bool true) :: (t', .bool true) :: L) fuel listed) (hf : c = false → WPDI F P ops Q n k R0 R ((t, .bool false) :: (t', .bool false) :: L) fuel listed) : WPDI F P ops Q n k R0 R L fuel listed := by
  have key : ∀ u x, get ((t, .bool c) :: (t', .bool c) :: L) u = some x → get L u = some x := fun u x hu => by
    rw [get_cons] at hu
    split at hu
    · rename_i e; subst e; cases hu; exact h
    · exact get_same h' u x hu
  cases c with
  | true => exact fun a w hs hr => ht rfl a w (hs.weaken key) hr
  | false => exact fun a w hs hr => hf rfl a w (hs.weaken key) hr
theorem wid_re (t : Nat) {v v' : Value} (h : get L t = some v) (e : v = v') (next : WPDI F P ops Q n k R0 R ((t, v') :: L) fuel listed) : WPDI F P ops Q n k R0 R L fuel listed := by
  subst e
  exact fun a w hs hr => next a w (hs.weaken (get_same h)) hr
end
end Go.PL
