import Derived.Test.YtgnablliekgbgaaDoorMNPLN
import Derived.OrdersIn
import Derived.Lib.AppendZeros
import Derived.Laws.MakeOwn
set_option linter.unusedSimpArgs false
set_option linter.unusedVariables false
/- The rules of the logic once more, within a fence: an iterator's code, and the body of a range over a function. -/
namespace Go.PL
open Go Go.RowKit
class OpenC (F : Fence) : Prop where
  out : Open F
instance openC_wide : OpenC Fence.wide := ⟨open_wide⟩
instance openC_round {l : Nat} : OpenC (Fence.wide.inRound l) := ⟨open_round l⟩
section
variable {F : Fence} {P : Program} {n : Cx} {R : World → Prop} {L : Slots} {Q : Exit → Act → World → Prop} {ops : Array Oper} {rest : List Oper} {op : Op} {ty : TypeId} {pos : String} {af : Array Edge} {d : Tmp} {v : Value}
theorem wil_q [hF : OpenC F] (hop : QOp P n R L op v) (hd : Nat.blt d n.n = true) (next : WPLI F P ops Q n R ((d, v) :: L) rest) (hdf : ∀ c, op ≠ .defer c := by intro c h; cases h) :
    WPLI F P ops Q n R L (⟨some d, op, ty, pos, af, none⟩ :: rest) := wpli_q hF.out hop hd next hdf
theorem wil_q0 [hF : OpenC F] (hop : QOp P n R L op v) (next : WPLI F P ops Q n R L rest) (hdf : ∀ c, op ≠ .defer c := by intro c h; cases h) :
    WPLI F P ops Q n R L (⟨none, op, ty, pos, af, none⟩ :: rest) := wpli_t0 hF.out (hop.top (Q := Q)) (fun _ => next) hdf
theorem wil_t [hF : OpenC F] {ι : Type} {V : ι → Value} {R' : ι → World → Prop} (hop : TOp P Q n R L op ι V R') (hd : Nat.blt d n.n = true) (next : ∀ x, WPLI F P ops Q n (R' x) ((d, V x) :: L) rest) (hdf : ∀ c, op ≠ .defer c := by intro c h; cases h) :
    WPLI F P ops Q n R L (⟨some d, op, ty, pos, af, none⟩ :: rest) := wpli_t hF.out hop hd next hdf
theorem wil_t0 [hF : OpenC F] {ι : Type} {V : ι → Value} {R' : ι → World → Prop} (hop : TOp P Q n R L op ι V R') (next : ∀ x, WPLI F P ops Q n (R' x) L rest) (hdf : ∀ c, op ≠ .defer c := by intro c h; cases h) :
    WPLI F P ops Q n R L (⟨none, op, ty, pos, af, none⟩ :: rest) := wpli_t0 hF.out hop next hdf
theorem wil_tp [hF : OpenC F] {ι : Type} {p : ι → Prop} {V : ι → Value} {R' : ι → World → Prop} (hop : TOpP P Q n R L op ι p V R') (hd : Nat.blt d n.n = true) (next : ∀ x, p x → WPLI F P ops Q n (R' x) ((d, V x) :: L) rest) (hdf : ∀ c, op ≠ .defer c := by intro c h; cases h) :
    WPLI F P ops Q n R L (⟨some d, op, ty, pos, af, none⟩ :: rest) := wil_t hop.t hd (fun x => next x.1 x.2) hdf
theorem wil_on {d : Option Tmp} {j t : Nat} {b : Bool} (hj : (ops[j]?).bind (·.dst) = some t) (hv : get L t = some (.bool b)) (next : WPLI F P ops Q n R L (⟨d, op, ty, pos, af, none⟩ :: rest)) :
    WPLI F P ops Q n R L (⟨d, op, ty, pos, af, some (j, b)⟩ :: rest) := by
  intro a w hs hr
  have h := next a w hs hr
  have hy := yielded_of (ops := ops) hs hj hv
  unfold wpListIn at h ⊢
  simp only [Region.wanted, if_true] at h
  simp only [Region.wanted, hy, beq_self_eq_true, if_true]
  exact h
theorem wil_off [hF : OpenC F] {j t : Nat} {b : Bool} {v : Value} (hj : (ops[j]?).bind (·.dst) = some t) (hv : get L t = some v) (hbc : offV v b = true) (hd : Nat.blt d n.n = true) (next : WPLI F P ops Q n R ((d, undef) :: L) rest) :
    WPLI F P ops Q n R L (⟨some d, op, ty, pos, af, some (j, b)⟩ :: rest) := by
  intro a w hs hr
  have hy := yielded_off (ops := ops) hs hj hv hbc
  unfold wpListIn
  simp only [Region.wanted, hy, Bool.false_eq_true, if_false]
  exact ⟨fun f _ => hF.out.fn f, next _ _ (hs.put hd undef) hr⟩
theorem wil_nil (h : EX Q .normal n R L) : WPLI F P ops Q n R L [] := wpli_nil h
theorem get_same {t : Nat} {v : Value} (h : get L t = some v) : ∀ u x, get ((t, v) :: L) u = some x → get L u = some x := fun u x hu => by
  rw [get_cons] at hu
  split at hu
  · rename_i e; subst e; cases hu; exact h
  · exact hu
theorem get_same2 {t t' : Nat} {v : Value} (h : get L t = some v) (h' : get L t' = some v) : ∀ u x, get ((t, v) :: (t', v) :: L) u = some x → get L u = some x := fun u x hu => by
  rw [get_cons] at hu
  split at hu
  · rename_i e; subst e; cases hu; exact h
  · exact get_same h' u x hu
theorem wil_bool (t : Nat) {c : Bool} (h : get L t = some (.bool c)) (ht : c = true → WPLI F P ops Q n R ((t, .bool true) :: L) rest) (hf : c = false → WPLI F P ops Q n R ((t, .bool false) :: L) rest) : WPLI F P ops Q n R L rest := by
  cases c with
  | true => exact fun a w hs hr => ht rfl a w (hs.weaken (get_same h)) hr
  | false => exact fun a w hs hr => hf rfl a w (hs.weaken (get_same h)) hr
theorem wil_bool2 (t t' : Nat) {c : Bool} (h : get L t = some (.bool c)) (h' : get L t' = some (.bool c)) (ht : c = true → WPLI F P ops Q n R ((t, .bool true) :: (t', .bool true) :: L) rest) (hf : c = false → WPLI F P ops Q n R ((t, .bool false) :: (t', .bool false) :: L) rest) : WPLI F P ops Q n R L rest := by
  cases c with
  | true => exact fun a w hs hr => ht rfl a w (hs.weaken (get_same2 h h')) hr
  | false => exact fun a w hs hr => hf rfl a w (hs.weaken (get_same2 h h')) hr
theorem wil_re (t : Nat) {v v' : Value} (h : get L t = some v) (e : v = v') (next : WPLI F P ops Q n R ((t, v') :: L) rest) : WPLI F P ops Q n R L rest := by
  subst e
  refine fun a w hs hr => next a w (hs.weaken fun u v hu => ?_) hr
  rw [get_cons] at hu
  split at hu
  · rename_i e; subst e; cases hu; exact h
  · exact hu
theorem wic_region {id : Nat} {l : List Oper} (h : WPLI F P l.toArray Q n R L l) : WPCI F P Q n R L (.region id l.toArray false) := wpci_region h
theorem wic_seq {x y : Code} (h : WPCI F P (Exit.then (y.wpIn F 0 P Q) Q) n R L x) : WPCI F P Q n R L (.seq x y) := wpci_seq h
theorem wic_cond {c : Operand} {x y : Code} {b : Bool} (hb : ev L c = some (.bool b)) (ht : b = true → WPCI F P Q n R L x) (hf : b = false → WPCI F P Q n R L y) : WPCI F P Q n R L (.cond c x y) := wpci_cond hb ht hf
theorem wic_cond_t {c : Operand} {x y : Code} (hb : ev L c = some (.bool true)) (ht : WPCI F P Q n R L x) : WPCI F P Q n R L (.cond c x y) := wpci_cond hb (fun _ => ht) (fun h => by cases h)
theorem wic_cond_f {c : Operand} {x y : Code} (hb : ev L c = some (.bool false)) (hf : WPCI F P Q n R L y) : WPCI F P Q n R L (.cond c x y) := wpci_cond hb (fun h => by cases h) (fun _ => hf)
theorem wic_block {id : Nat} {c : Code} (h : WPCI F P (Exit.inBlock id Q) n R L c) : WPCI F P Q n R L (.block id c) := wpci_block h
theorem wic_skip (h : EX Q .normal n R L) : WPCI F P Q n R L .skip := wpci_skip h
theorem wic_exit {id : Nat} (h : EX Q (.exit id) n R L) : WPCI F P Q n R L (.exit id) := wpci_exit h
theorem wic_ret (h : EX Q .ret n R L) : WPCI F P Q n R L .ret := wpci_ret h
theorem eix_then {y : Code} (h : WPCI F P Q n R L y) : EX (Exit.then (y.wpIn F 0 P Q) Q) .normal n R L := exi_then h
theorem wic_cutc {x y : Code} (ι : Type) (Lc : Slots) (L' : ι → Slots → Slots) (R' : ι → World → Prop) (h1 : WPCI F P (Exit.then (Mid n (fun i => L' i Lc) R') Q) n R L x) (h2 : ∀ i, WPCI F P Q n (R' i) (L' i Lc) y) : WPCI F P Q n R L (.seq x y) := by
  refine wic_seq fun a w hs hr => wpIn_mono (h1 a w hs hr) ?_
  intro e a w h
  cases e with
  | normal => obtain ⟨i, h3, h4⟩ := h; exact h2 i a w h3 h4
  | _ => exact h
variable {md : Region.Mode} {S : Array Bool → World → Prop} {R0 : World → Prop}
theorem YieldsIf.wpOpJ [hF : OpenC F] {S : World → Prop} {i : Nat} {o : Oper} {v : Value} {a : Act} (hi : ops[i]? = some o) (hdf : ∀ c, o.op ≠ .defer c) (hy : YieldsIf P ops S o v a)
    {K : Act → World → Prop} {w : World} (hS : S w) (h : K (a.put o.dst v) w) : wpOpIn F 0 P ops Q i K a w := by
  unfold Go.wpOpIn
  simp only [hi]
  rcases hy with ⟨hw, hv⟩ | ⟨hw, rfl⟩
  · simp only [hw, if_true, Oper.wpIn, Oper.semAt_eq _ _ _ hdf, hv w hS, Oper.uponIn]; exact ⟨fun f _ => hF.out.fn f, h⟩
  · simp only [hw, Bool.false_eq_true, if_false]; exact ⟨fun f _ => hF.out.fn f, h⟩
theorem wpOpIn_putIf [hF : OpenC F] {S : World → Prop} {j : Nat} {oi oj : Oper} {v : Value} (hj : ops[j]? = some oj) (hap : oi.apart ops oj = true)
    (hsi : ∀ cs b, oi.op ≠ .select cs b) (hsj : ∀ cs b, oj.op ≠ .select cs b) (hdj : ∀ c, oj.op ≠ .defer c)
    (hQ : ∀ c a w, Q (.panic c) (a.put oi.dst v) w → Q (.panic c) a w) {K : Act → World → Prop} {a : Act} {w : World}
    (hy : YieldsIf P ops S oi v a) (h : wpOpIn F 0 P ops Q j K (a.put oi.dst v) w) :
    wpOpIn F 0 P ops Q j (fun a' w' => YieldsIf P ops S oi v a' ∧ K (a'.put oi.dst v) w') a w := by
  obtain ⟨h1, h2, h3⟩ := Oper.apart_spec hap
  have keep : ∀ (a : Act), YieldsIf P ops S oi v a → ∀ u, YieldsIf P ops S oi v (a.put oj.dst u) := fun a hy u =>
    hy.of_same (execOp_put oi hsi a oj.dst u h3) (wanted_put oi a oj.dst u h3)
  unfold wpOpIn at *
  simp only [hj] at *
  rw [wanted_put oj a oi.dst v h1] at h
  split
  · rename_i hw
    simp only [hw, if_true] at h
    unfold Oper.wpIn at *
    refine ⟨fun f _ => hF.out.fn f, ?_⟩
    have h := h.2
    rw [Oper.semAt_eq _ _ _ hdj, execOp_put oj hsj a oi.dst v h1] at h
    rw [Oper.semAt_eq _ _ _ hdj]
    generalize (execOp a.eval oj).run P w = r at *
    cases r with
    | ok x w' =>
      cases x <;> simp only [Oper.uponIn] at h ⊢
      case value u => exact ⟨keep a hy u, by rw [← Act.put_comm a v u h2]; exact h⟩
      case skip => exact ⟨keep a hy _, by rw [← Act.put_comm a v undef h2]; exact h⟩
      case defer d =>
        have keepD : YieldsIf P ops S oi v { a with defers := d :: a.defers } := hy.of_same rfl rfl
        refine ⟨keep _ keepD _, ?_⟩
        rw [← Act.put_comm _ v undef h2, ← Act.put_defers]
        exact h
      case enter f args =>
        refine ⟨h.1, CallsIn.mono h.2 fun e w'' he => ?_⟩
        cases e with
        | returned u => exact ⟨keep a hy u, by rw [← Act.put_comm a v u h2]; exact he⟩
        | panicked c => exact hQ _ _ _ he
        | outgrown => exact he
      case row row args => exact ⟨h.1, RowsIn.mono h.2 fun u w'' he => ⟨keep a hy u, by rw [← Act.put_comm a v u h2]; exact he⟩⟩
      case round l f tmps assign body =>
        refine ⟨h.1, RoundIn.mono h.2 fun e w'' he => ?_⟩
        cases e with
        | returned u => exact ⟨keep a hy u, by rw [← Act.put_comm a v u h2]; exact he⟩
        | panicked c => exact hQ _ _ _ he
        | outgrown => exact he
    | halt x w' =>
      cases x <;> simp only [Oper.uponIn] at h ⊢
      case panic u => exact hQ _ _ _ h
  · rename_i hw
    simp only [hw] at h
    exact ⟨fun f _ => hF.out.fn f, keep a hy _, by rw [← Act.put_comm a v undef h2]; exact h.2⟩
def wpAnyJ (F : Fence) (P : Program) (md : Region.Mode) (ops : Array Oper) (Q : Exit → Act → World → Prop) (S : Array Bool → World → Prop) : Nat → Array Bool → Act → World → Prop
  | 0, listed, a, w => Region.ready md ops listed = [] ∧ Q .normal a w
  | fuel + 1, listed, a, w =>
    (Region.ready md ops listed = [] → Q .normal a w) ∧
    ∀ i ∈ Region.ready md ops listed, wpOpIn F 0 P ops Q i (fun a' w' => S (listed.setIfInBounds i true) w' ∧ wpAnyJ F P md ops Q S fuel (listed.setIfInBounds i true) a' w') a w
theorem wpAnyIn_of_J : ∀ (fuel : Nat) (listed : Array Bool) (a : Act) (w : World), wpAnyJ F P md ops Q S fuel listed a w → wpAnyIn F 0 P md ops Q fuel listed a w
  | 0, _, _, _, h => h
  | fuel + 1, _, _, _, h => ⟨h.1, fun i hi => wpOpIn_mono (fun a' w' h' => wpAnyIn_of_J fuel _ a' w' h'.2) (h.2 i hi)⟩
theorem wpAnyJ_first [hF : OpenC F] {i k : Nat} {oi : Oper} {v : Value} (hi : ops[i]? = some oi) (hdf : ∀ (j : Nat) (o : Oper), ops[j]? = some o → ∀ c, o.op ≠ .defer c) (hik : i ≠ k) (hsel : ∀ (j : Nat) (o : Oper) cs b, ops[j]? = some o → o.op ≠ .select cs b)
    (hdep : ∀ ok, ops[k]? = some ok → ∃ e ∈ ok.after, Region.binds md e = true ∧ e.on = i)
    (hQ : ∀ c a w, Q (.panic c) (a.put oi.dst v) w → Q (.panic c) a w) :
    ∀ (fuel : Nat) (listed : Array Bool) (a : Act) (w : World),
      (∀ j oj, ops[j]? = some oj → j ≠ i → listed.getD j true = false → (∀ e ∈ oj.after, Region.binds md e = true → e.on ≠ i) → oi.apart ops oj = true) →
      i ∈ Region.ready md ops listed → listed.getD k false = false → YieldsIf P ops R0 oi v a → SK k R0 listed w →
      wpAnyJ F P md ops Q (SK k R0) fuel (listed.setIfInBounds i true) (a.put oi.dst v) w → wpAnyJ F P md ops Q (SK k R0) (fuel + 1) listed a w := by
  intro fuel
  induction fuel with
  | zero =>
    intro listed a w _ hr hk hy hS H
    have hR : R0 w := hS.resolve_left (by simp [hk])
    refine ⟨fun h => zz46, fun j hj => ?_⟩
    by_cases hji : j = i
    · subst hji; exact YieldsIf.wpOpJ hi (hdf _ _ hi) hy hR ⟨.inr hR, H⟩
    · have := ready_mono hj hji
      rw [H.1] at this
      cases this
  | succ fuel ih =>
    intro listed a w hfree hr hk hy hS H
    have hR : R0 w := hS.resolve_left (by simp [hk])
    refine ⟨fun h => zz46, fun j hj => ?_⟩
    by_cases hji : j = i
    · subst hji; exact YieldsIf.wpOpJ hi (hdf _ _ hi) hy hR ⟨.inr hR, H⟩
    · have h1 := H.2 j (ready_mono hj hji)
      obtain ⟨hjun, oj, hoj, hall⟩ := mem_ready.1 hj
      have hnot : ∀ e ∈ oj.after, Region.binds md e = true → e.on ≠ i := fun e he hb heq => by
        have h1 := hall e he hb
        have h0 := (mem_ready.1 hr).1
        rw [heq] at h1
        rcases Nat.lt_or_ge i listed.size with h' | h'
        · simp [h'] at h0 h1; rw [h0] at h1; cases h1
        · simp [Array.getElem?_eq_none h'] at h1
      have hjk : j ≠ k := fun e => by
        subst e
        obtain ⟨e, he, hb, heq⟩ := hdep oj hoj
        exact hnot e he hb heq
      have h2 := wpOpIn_putIf hoj (hfree j oj hoj hji hjun hnot) (fun cs b => hsel i oi cs b hi) (fun cs b => hsel j oj cs b hoj) (hdf j oj hoj) hQ hy h1
      have hfree' : ∀ m om, ops[m]? = some om → m ≠ i → (listed.setIfInBounds j true).getD m true = false →
          (∀ e ∈ om.after, Region.binds md e = true → e.on ≠ i) → oi.apart ops om = true := fun m om hm hmi hun hno => by
        refine hfree m om hm hmi ?_ hno
        by_cases hjm : j = m
        · subst hjm; exact hjun
        · rw [getD_set_ne true hjm] at hun; exact hun
      refine wpOpIn_mono (fun a' w' h3 => ?_) h2
      have hS' : SK k R0 (listed.setIfInBounds j true) w' := by
        rcases h3.2.1 with h | h
        · refine .inl ?_
          rw [getD_set_ne' hjk, getD_set_ne' hik] at h
          rw [getD_set_ne' hjk]; exact h
        · exact .inr h
      refine ⟨hS', ih (listed.setIfInBounds j true) a' w' hfree' (ready_mono hr (Ne.symm hji)) (by rw [getD_set_ne' hjk]; exact hk) h3.1 hS' ?_⟩
      rw [Array.setIfInBounds_comm _ _ hji]
      exact h3.2.2
theorem wpAnyJ_first' [hF : OpenC F] {i k : Nat} {oi : Oper} {v : Value} (hi : ops[i]? = some oi) (hdf : ∀ (j : Nat) (o : Oper), ops[j]? = some o → ∀ c, o.op ≠ .defer c) (hik : i ≠ k) (hsel : ∀ (j : Nat) (o : Oper) cs b, ops[j]? = some o → o.op ≠ .select cs b)
    (hQ : ∀ c a w, Q (.panic c) (a.put oi.dst v) w → Q (.panic c) a w) :
    ∀ (fuel : Nat) (listed : Array Bool) (a : Act) (w : World),
      (∀ j oj, ops[j]? = some oj → j ≠ i → listed.getD j true = false → (∀ e ∈ oj.after, Region.binds md e = true → e.on ≠ i) → oi.apart ops oj = true) →
      i ∈ Region.ready md ops listed → YieldsIf P ops (fun _ => True) oi v a → SK k R0 listed w →
      wpAnyJ F P md ops Q (SK k R0) fuel (listed.setIfInBounds i true) (a.put oi.dst v) w → wpAnyJ F P md ops Q (SK k R0) (fuel + 1) listed a w := by
  intro fuel
  have hup : ∀ (l : Array Bool) w, SK k R0 l w → SK k R0 (l.setIfInBounds i true) w := fun l w h => h.imp (fun h => by rw [getD_set_ne' hik]; exact h) id
  induction fuel with
  | zero =>
    intro listed a w _ hr hy hS H
    refine ⟨fun h => zz46, fun j hj => ?_⟩
    by_cases hji : j = i
    · subst hji; exact YieldsIf.wpOpJ hi (hdf _ _ hi) hy trivial ⟨hup _ _ hS, H⟩
    · have := ready_mono hj hji
      rw [H.1] at this
      cases this
  | succ fuel ih =>
    intro listed a w hfree hr hy hS H
    refine ⟨fun h => zz46, fun j hj => ?_⟩
    by_cases hji : j = i
    · subst hji; exact YieldsIf.wpOpJ hi (hdf _ _ hi) hy trivial ⟨hup _ _ hS, H⟩
    · have h1 := H.2 j (ready_mono hj hji)
      obtain ⟨hjun, oj, hoj, hall⟩ := mem_ready.1 hj
      have hnot : ∀ e ∈ oj.after, Region.binds md e = true → e.on ≠ i := fun e he hb heq => by
        have h1 := hall e he hb
        have h0 := (mem_ready.1 hr).1
        rw [heq] at h1
        rcases Nat.lt_or_ge i listed.size with h' | h'
        · simp [h'] at h0 h1; rw [h0] at h1; cases h1
        · simp [Array.getElem?_eq_none h'] at h1
      have h2 := wpOpIn_putIf hoj (hfree j oj hoj hji hjun hnot) (fun cs b => hsel i oi cs b hi) (fun cs b => hsel j oj cs b hoj) (hdf j oj hoj) hQ hy h1
      have hfree' : ∀ m om, ops[m]? = some om → m ≠ i → (listed.setIfInBounds j true).getD m true = false →
          (∀ e ∈ om.after, Region.binds md e = true → e.on ≠ i) → oi.apart ops om = true := fun m om hm hmi hun hno => by
        refine hfree m om hm hmi ?_ hno
        by_cases hjm : j = m
        · subst hjm; exact hjun
        · rw [getD_set_ne true hjm] at hun; exact hun
      refine wpOpIn_mono (fun a' w' h3 => ?_) h2
      have hS' : SK k R0 (listed.setIfInBounds j true) w' := by
        rcases h3.2.1 with h | h
        · refine .inl ?_
          by_cases hjk : j = k
          · subst hjk
            rw [Array.setIfInBounds_comm _ _ (Ne.symm hji), getD_set_ne' hik] at h
            exact h
          · rw [getD_set_ne' hjk, getD_set_ne' hik] at h
            rw [getD_set_ne' hjk]; exact h
        · exact .inr h
      refine ⟨hS', ih (listed.setIfInBounds j true) a' w' hfree' (ready_mono hr (Ne.symm hji)) h3.1 hS' ?_⟩
      rw [Array.setIfInBounds_comm _ _ hji]
      exact h3.2.2
theorem wpAnyJ_firstB [hF : OpenC F] {i k : Nat} {oi : Oper} {v : Value} (B : List Nat) (hi : ops[i]? = some oi) (hdf : ∀ (j : Nat) (o : Oper), ops[j]? = some o → ∀ c, o.op ≠ .defer c) (hik : i ≠ k) (hsel : ∀ (j : Nat) (o : Oper) cs b, ops[j]? = some o → o.op ≠ .select cs b)
    (hk : k ∈ B) (hB : ∀ j oj, j ∈ B → ops[j]? = some oj → ∃ e ∈ oj.after, Region.binds md e = true ∧ (e.on = i ∨ e.on ∈ B)) (hiB : i ∉ B)
    (hQ : ∀ c a w, Q (.panic c) (a.put oi.dst v) w → Q (.panic c) a w) :
    ∀ (fuel : Nat) (listed : Array Bool) (a : Act) (w : World),
      (∀ j oj, ops[j]? = some oj → j ≠ i → listed.getD j true = false → (∀ e ∈ oj.after, Region.binds md e = true → e.on ≠ i) → oi.apart ops oj = true) →
      i ∈ Region.ready md ops listed → (∀ j ∈ B, listed.getD j true = false) → YieldsIf P ops R0 oi v a → SK k R0 listed w →
      wpAnyJ F P md ops Q (SK k R0) fuel (listed.setIfInBounds i true) (a.put oi.dst v) w → wpAnyJ F P md ops Q (SK k R0) (fuel + 1) listed a w := by
  have hkf : ∀ listed : Array Bool, (∀ j ∈ B, listed.getD j true = false) → listed.getD k false = false := fun listed h => by
    have := h k hk
    rcases Nat.lt_or_ge k listed.size with h' | h'
    · simpa [h'] using this
    · simp [Array.getElem?_eq_none h'] at this
  intro fuel
  induction fuel with
  | zero =>
    intro listed a w _ hr hun hy hS H
    have hR : R0 w := hS.resolve_left (by simp [hkf _ hun])
    refine ⟨fun h => zz46, fun j hj => ?_⟩
    by_cases hji : j = i
    · subst hji; exact YieldsIf.wpOpJ hi (hdf _ _ hi) hy hR ⟨.inr hR, H⟩
    · have := ready_mono hj hji
      rw [H.1] at this
      cases this
  | succ fuel ih =>
    intro listed a w hfree hr hun hy hS H
    have hR : R0 w := hS.resolve_left (by simp [hkf _ hun])
    refine ⟨fun h => zz46, fun j hj => ?_⟩
    by_cases hji : j = i
    · subst hji; exact YieldsIf.wpOpJ hi (hdf _ _ hi) hy hR ⟨.inr hR, H⟩
    · have h1 := H.2 j (ready_mono hj hji)
      obtain ⟨hjun, oj, hoj, hall⟩ := mem_ready.1 hj
      have und : ∀ m, listed.getD m true = false → listed[m]? = some true → False := fun m h0 h1 => by
        rcases Nat.lt_or_ge m listed.size with h' | h'
        · simp [h'] at h0 h1; rw [h0] at h1; cases h1
        · simp [Array.getElem?_eq_none h'] at h1
      have hnot : ∀ e ∈ oj.after, Region.binds md e = true → e.on ≠ i := fun e he hb heq => by
        have h1 := hall e he hb
        have h0 := (mem_ready.1 hr).1
        rw [heq] at h1
        rcases Nat.lt_or_ge i listed.size with h' | h'
        · simp [h'] at h0 h1; rw [h0] at h1; cases h1
        · simp [Array.getElem?_eq_none h'] at h1
      have hjB : j ∉ B := fun hjB => by
        obtain ⟨e, he, hb, heq⟩ := hB j oj hjB hoj
        rcases heq with heq | heq
        · exact hnot e he hb heq
        · have h1 := hall e he hb
          have h0 := hun e.on heq
          rcases Nat.lt_or_ge e.on listed.size with h' | h'
          · simp [h'] at h0 h1; rw [h0] at h1; cases h1
          · simp [Array.getElem?_eq_none h'] at h0
      have hjk : j ≠ k := fun e => hjB (e ▸ hk)
      have h2 := wpOpIn_putIf hoj (hfree j oj hoj hji hjun hnot) (fun cs b => hsel i oi cs b hi) (fun cs b => hsel j oj cs b hoj) (hdf j oj hoj) hQ hy h1
      have hfree' : ∀ m om, ops[m]? = some om → m ≠ i → (listed.setIfInBounds j true).getD m true = false →
          (∀ e ∈ om.after, Region.binds md e = true → e.on ≠ i) → oi.apart ops om = true := fun m om hm hmi hun' hno => by
        refine hfree m om hm hmi ?_ hno
        by_cases hjm : j = m
        · subst hjm; exact hjun
        · rw [getD_set_ne true hjm] at hun'; exact hun'
      refine wpOpIn_mono (fun a' w' h3 => ?_) h2
      have hS' : SK k R0 (listed.setIfInBounds j true) w' := by
        rcases h3.2.1 with h | h
        · refine .inl ?_
          rw [getD_set_ne' hjk, getD_set_ne' hik] at h
          rw [getD_set_ne' hjk]; exact h
        · exact .inr h
      refine ⟨hS', ih (listed.setIfInBounds j true) a' w' hfree' (ready_mono hr (Ne.symm hji)) (fun m hm => ?_) h3.1 hS' ?_⟩
      · have hjm : j ≠ m := fun e => hjB (e ▸ hm)
        rw [getD_set_ne true hjm]; exact hun m hm
      · rw [Array.setIfInBounds_comm _ _ hji]
        exact h3.2.2
variable {k fuel : Nat} {listed : Array Bool} {g : Option (Nat × Bool)}
def noDef (ops : Array Oper) : Bool := ops.all fun o => match o.op with
  | .defer _ => false
  | _ => true
theorem noDef_spec (h : noDef ops = true) : ∀ (j : Nat) (o : Oper), ops[j]? = some o → ∀ c, o.op ≠ .defer c := fun j o ho c e => by
  have := Array.all_eq_true'.1 h o (Array.mem_of_getElem? ho)
  rw [e] at this; cases this
def WPDI (F : Fence) (P : Program) (ops : Array Oper) (Q : Exit → Act → World → Prop) (n : Cx) (k : Nat) (R0 R : World → Prop) (L : Slots) (fuel : Nat) (listed : Array Bool) : Prop :=
  ∀ a w, Sl n a L → R w → wpAnyJ F P .any ops Q (SK k R0) fuel listed a w
theorem wic_draw {id : Nat} {l : List Oper} (k : Nat) (hm : P.follows .mixedOrders = true) (hdr : ∀ w : World, R w → R { w with drawn := w.drawn + 1 })
    (h : WPDI F P l.toArray Q n k R R L l.length (Array.replicate l.length false)) : WPCI F P Q n R L (.region id l.toArray true) := by
  intro a w hs hr
  refine wpIn_region_any hm (wpAnyIn_of_J (S := SK k R) _ _ _ _ ?_)
  have := h a { w with drawn := w.drawn + 1 } hs (hdr w hr)
  simpa using this
theorem wid_q [hF : OpenC F] (i : Nat) (hi : ops[i]? = some ⟨some d, op, ty, pos, af, g⟩) (hc : (chk ops listed i && waits ops k i && !Nat.beq i k && !listed.getD k false && noDef ops) = true) (hg : Wants ops L g)
    (hop : QOp P n R0 L op v) (hd : Nat.blt d n.n = true) [hP : NoP Q] (hR : ∀ w, R w → R0 w)
    (next : WPDI F P ops Q n k R0 R ((d, v) :: L) fuel (listed.setIfInBounds i true)) : WPDI F P ops Q n k R0 R L (fuel + 1) listed := by
  intro a w hs hr
  simp only [Bool.and_eq_true, Bool.not_eq_true'] at hc
  obtain ⟨⟨⟨⟨hc, hw⟩, hik⟩, hk⟩, hnd⟩ := hc
  obtain ⟨hsel, hf, hrd⟩ := chk_spec hc
  have hik' : i ≠ k := fun e => by subst e; simp [Nat.beq_refl] at hik
  exact wpAnyJ_first (R0 := R0) hi (noDef_spec hnd) hik' (Region.noSelect_spec hsel) (waits_spec hw) (fun c a w h => hP.out _ _ _ _ (defers_put _ _ _) h) fuel listed a w (Region.free_spec hi hf) hrd hk
    (.inl ⟨hg.spec hs, fun w' h' => hop _ _ _ _ _ a w' hs h'⟩) (.inr (hR w hr)) (next _ _ (hs.put hd v) hr)
theorem wid_qB [hF : OpenC F] (i : Nat) (B : List Nat) (hi : ops[i]? = some ⟨some d, op, ty, pos, af, g⟩) (hc : (chk ops listed i && !Nat.beq i k && chkB ops listed i k B && noDef ops) = true) (hg : Wants ops L g)
    (hop : QOp P n R0 L op v) (hd : Nat.blt d n.n = true) [hP : NoP Q] (hR : ∀ w, R w → R0 w)
    (next : WPDI F P ops Q n k R0 R ((d, v) :: L) fuel (listed.setIfInBounds i true)) : WPDI F P ops Q n k R0 R L (fuel + 1) listed := by
  intro a w hs hr
  simp only [Bool.and_eq_true, Bool.not_eq_true'] at hc
  obtain ⟨⟨⟨hc, hik⟩, hcB⟩, hnd⟩ := hc
  obtain ⟨hsel, hf, hrd⟩ := chk_spec hc
  obtain ⟨b1, b2, b3, b4⟩ := chkB_spec hcB
  have hik' : i ≠ k := fun e => by subst e; simp [Nat.beq_refl] at hik
  exact wpAnyJ_firstB (R0 := R0) B hi (noDef_spec hnd) hik' (Region.noSelect_spec hsel) b1 b4 b2 (fun c a w h => hP.out _ _ _ _ (defers_put _ _ _) h) fuel listed a w (Region.free_spec hi hf) hrd b3
    (.inl ⟨hg.spec hs, fun w' h' => hop _ _ _ _ _ a w' hs h'⟩) (.inr (hR w hr)) (next _ _ (hs.put hd v) hr)
theorem wid_p [hF : OpenC F] (i : Nat) (hi : ops[i]? = some ⟨some d, op, ty, pos, af, g⟩) (hc : (chk ops listed i && !Nat.beq i k && noDef ops) = true) (hg : Wants ops L g)
    (hop : QOp P n (fun _ => True) L op v) (hd : Nat.blt d n.n = true) [hP : NoP Q] (hR : ∀ w, R w → SK k R0 listed w)
    (next : WPDI F P ops Q n k R0 R ((d, v) :: L) fuel (listed.setIfInBounds i true)) : WPDI F P ops Q n k R0 R L (fuel + 1) listed := by
  intro a w hs hr
  simp only [Bool.and_eq_true, Bool.not_eq_true'] at hc
  obtain ⟨⟨hc, hik⟩, hnd⟩ := hc
  obtain ⟨hsel, hf, hrd⟩ := chk_spec hc
  have hik' : i ≠ k := fun e => by subst e; simp [Nat.beq_refl] at hik
  exact wpAnyJ_first' (R0 := R0) hi (noDef_spec hnd) hik' (Region.noSelect_spec hsel) (fun c a w h => hP.out _ _ _ _ (defers_put _ _ _) h) fuel listed a w (Region.free_spec hi hf) hrd
    (.inl ⟨hg.spec hs, fun w' h' => hop _ _ _ _ _ a w' hs h'⟩) (hR w hr) (next _ _ (hs.put hd v) hr)
theorem wid_off [hF : OpenC F] (i : Nat) (hi : ops[i]? = some ⟨some d, op, ty, pos, af, g⟩) (hc : (chk ops listed i && !Nat.beq i k && noDef ops) = true) (hg : WantsNot ops L g)
    (hd : Nat.blt d n.n = true) [hP : NoP Q] (hR : ∀ w, R w → SK k R0 listed w)
    (next : WPDI F P ops Q n k R0 R ((d, undef) :: L) fuel (listed.setIfInBounds i true)) : WPDI F P ops Q n k R0 R L (fuel + 1) listed := by
  intro a w hs hr
  simp only [Bool.and_eq_true, Bool.not_eq_true'] at hc
  obtain ⟨⟨hc, hik⟩, hnd⟩ := hc
  obtain ⟨hsel, hf, hrd⟩ := chk_spec hc
  have hik' : i ≠ k := fun e => by subst e; simp [Nat.beq_refl] at hik
  exact wpAnyJ_first' (R0 := R0) hi (noDef_spec hnd) hik' (Region.noSelect_spec hsel) (fun c a w h => hP.out _ _ _ _ (defers_put _ _ _) h) fuel listed a w (Region.free_spec hi hf) hrd
    (.inr ⟨hg.spec hs, rfl⟩) (hR w hr) (next _ _ (hs.put hd undef) hr)
def WPDAI (F : Fence) (P : Program) (ops : Array Oper) (Q : Exit → Act → World → Prop) (n : Cx) (k : Nat) (R0 R : World → Prop) (L : Slots) (fuel : Nat) (listed : Array Bool) (i : Nat) : Prop :=
  ∀ a w, Sl n a L → R w → wpOpIn F 0 P ops Q i (fun a' w' => SK k R0 (listed.setIfInBounds i true) w' ∧ wpAnyJ F P .any ops Q (SK k R0) fuel (listed.setIfInBounds i true) a' w') a w
theorem wid_one (i : Nat) (hr : Region.ready .any ops listed = [i]) (h1 : WPDAI F P ops Q n k R0 R L fuel listed i) : WPDI F P ops Q n k R0 R L (fuel + 1) listed := by
  intro a w hs hw
  refine ⟨fun h0 => absurd (hr.symm.trans h0) zz40, fun m hm => ?_⟩
  rw [hr] at hm
  simp only [List.mem_cons, List.not_mem_nil, or_false] at hm
  subst hm
  exact h1 a w hs hw
theorem wid_two (i j : Nat) (hr : Region.ready .any ops listed = [i, j]) (h1 : WPDAI F P ops Q n k R0 R L fuel listed i) (h2 : WPDAI F P ops Q n k R0 R L fuel listed j) : WPDI F P ops Q n k R0 R L (fuel + 1) listed := by
  intro a w hs hw
  refine ⟨fun h0 => absurd (hr.symm.trans h0) zz40, fun m hm => ?_⟩
  rw [hr] at hm
  simp only [List.mem_cons, List.not_mem_nil, or_false] at hm
  rcases hm with rfl | rfl
  · exact h1 a w hs hw
  · exact h2 a w hs hw
theorem wid_three (i j l : Nat) (hr : Region.ready .any ops listed = [i, j, l]) (h1 : WPDAI F P ops Q n k R0 R L fuel listed i) (h2 : WPDAI F P ops Q n k R0 R L fuel listed j) (h3 : WPDAI F P ops Q n k R0 R L fuel listed l) : WPDI F P ops Q n k R0 R L (fuel + 1) listed := by
  intro a w hs hw
  refine ⟨fun h0 => absurd (hr.symm.trans h0) zz40, fun m hm => ?_⟩
  rw [hr] at hm
  simp only [List.mem_cons, List.not_mem_nil, or_false] at hm
  rcases hm with rfl | rfl | rfl
  · exact h1 a w hs hw
  · exact h2 a w hs hw
  · exact h3 a w hs hw
theorem wia_t [hF : OpenC F] {ι : Type} {V : ι → Value} {R' : ι → World → Prop} (i : Nat) (hi : ops[i]? = some ⟨some d, op, ty, pos, af, g⟩) (hg : Wants ops L g)
    (hop : TOp P Q n R L op ι V R') (hd : Nat.blt d n.n = true) (hS : ∀ x w, R' x w → SK k R0 (listed.setIfInBounds i true) w)
    (next : ∀ x, WPDI F P ops Q n k R0 (R' x) ((d, V x) :: L) fuel (listed.setIfInBounds i true)) (hdf : ∀ c, op ≠ .defer c := by intro c h; cases h) : WPDAI F P ops Q n k R0 R L fuel listed i := by
  intro a w hs hw
  unfold wpOpIn
  simp only [hi, hg.spec hs, if_true]
  exact wpIn_of_wp hF.out hdf (hop _ _ _ _ _ a w _ hs hw fun x w' h' => ⟨hS x w' h', next x _ _ (hs.put hd (V x)) h'⟩)
theorem wia_tp [hF : OpenC F] {ι : Type} {p : ι → Prop} {V : ι → Value} {R' : ι → World → Prop} (i : Nat) (hi : ops[i]? = some ⟨some d, op, ty, pos, af, g⟩) (hg : Wants ops L g)
    (hop : TOpP P Q n R L op ι p V R') (hd : Nat.blt d n.n = true) (hS : ∀ x w, R' x w → SK k R0 (listed.setIfInBounds i true) w)
    (next : ∀ x, p x → WPDI F P ops Q n k R0 (R' x) ((d, V x) :: L) fuel (listed.setIfInBounds i true)) (hdf : ∀ c, op ≠ .defer c := by intro c h; cases h) : WPDAI F P ops Q n k R0 R L fuel listed i :=
  wia_t i hi hg hop.t hd (fun x => hS x.1) (fun x => next x.1 x.2) hdf
theorem wia_t0 [hF : OpenC F] {ι : Type} {V : ι → Value} {R' : ι → World → Prop} (i : Nat) (hi : ops[i]? = some ⟨none, op, ty, pos, af, g⟩) (hg : Wants ops L g)
    (hop : TOp P Q n R L op ι V R') (hS : ∀ x w, R' x w → SK k R0 (listed.setIfInBounds i true) w)
    (next : ∀ x, WPDI F P ops Q n k R0 (R' x) L fuel (listed.setIfInBounds i true)) (hdf : ∀ c, op ≠ .defer c := by intro c h; cases h) : WPDAI F P ops Q n k R0 R L fuel listed i := by
  intro a w hs hw
  unfold wpOpIn
  simp only [hi, hg.spec hs, if_true]
  exact wpIn_of_wp hF.out hdf (hop _ _ _ _ _ a w _ hs hw fun x w' h' => ⟨hS x w' h', next x _ _ hs h'⟩)
theorem wid_t [hF : OpenC F] {ι : Type} {V : ι → Value} {R' : ι → World → Prop} (i : Nat) (hi : ops[i]? = some ⟨some d, op, ty, pos, af, g⟩) (hr : Region.ready .any ops listed = [i]) (hg : Wants ops L g)
    (hop : TOp P Q n R L op ι V R') (hd : Nat.blt d n.n = true) (hS : ∀ x w, R' x w → SK k R0 (listed.setIfInBounds i true) w)
    (next : ∀ x, WPDI F P ops Q n k R0 (R' x) ((d, V x) :: L) fuel (listed.setIfInBounds i true)) (hdf : ∀ c, op ≠ .defer c := by intro c h; cases h) : WPDI F P ops Q n k R0 R L (fuel + 1) listed := wid_one i hr (wia_t i hi hg hop hd hS next hdf)
theorem wid_tp [hF : OpenC F] {ι : Type} {p : ι → Prop} {V : ι → Value} {R' : ι → World → Prop} (i : Nat) (hi : ops[i]? = some ⟨some d, op, ty, pos, af, g⟩) (hr : Region.ready .any ops listed = [i]) (hg : Wants ops L g)
    (hop : TOpP P Q n R L op ι p V R') (hd : Nat.blt d n.n = true) (hS : ∀ x w, R' x w → SK k R0 (listed.setIfInBounds i true) w)
    (next : ∀ x, p x → WPDI F P ops Q n k R0 (R' x) ((d, V x) :: L) fuel (listed.setIfInBounds i true)) (hdf : ∀ c, op ≠ .defer c := by intro c h; cases h) : WPDI F P ops Q n k R0 R L (fuel + 1) listed := wid_one i hr (wia_tp i hi hg hop hd hS next hdf)
theorem wid_t0 [hF : OpenC F] {ι : Type} {V : ι → Value} {R' : ι → World → Prop} (i : Nat) (hi : ops[i]? = some ⟨none, op, ty, pos, af, g⟩) (hr : Region.ready .any ops listed = [i]) (hg : Wants ops L g)
    (hop : TOp P Q n R L op ι V R') (hS : ∀ x w, R' x w → SK k R0 (listed.setIfInBounds i true) w)
    (next : ∀ x, WPDI F P ops Q n k R0 (R' x) L fuel (listed.setIfInBounds i true)) (hdf : ∀ c, op ≠ .defer c := by intro c h; cases h) : WPDI F P ops Q n k R0 R L (fuel + 1) listed := wid_one i hr (wia_t0 i hi hg hop hS next hdf)
theorem wid_off1 [hF : OpenC F] (i : Nat) (hi : ops[i]? = some ⟨some d, op, ty, pos, af, g⟩) (hr : Region.ready .any ops listed = [i]) (hg : WantsNot ops L g)
    (hd : Nat.blt d n.n = true) (hS : ∀ w, R w → SK k R0 (listed.setIfInBounds i true) w)
    (next : WPDI F P ops Q n k R0 R ((d, undef) :: L) fuel (listed.setIfInBounds i true)) : WPDI F P ops Q n k R0 R L (fuel + 1) listed := by
  refine wid_one i hr fun a w hs hw => ?_
  unfold wpOpIn
  simp only [hi, hg.spec hs, Bool.false_eq_true, if_false]
  exact ⟨fun f _ => hF.out.fn f, hS w hw, next _ _ (hs.put hd undef) hw⟩
theorem wpd_off1 (i : Nat) (hi : ops[i]? = some ⟨some d, op, ty, pos, af, g⟩) (hr : Region.ready .any ops listed = [i]) (hg : WantsNot ops L g)
    (hd : Nat.blt d n.n = true) (hS : ∀ w, R w → SK k R0 (listed.setIfInBounds i true) w)
    (next : WPD P ops Q n k R0 R ((d, undef) :: L) fuel (listed.setIfInBounds i true)) : WPD P ops Q n k R0 R L (fuel + 1) listed := by
  intro a w hs hw
  refine wpAnyI_one hr ?_
  unfold wpOp
  simp only [hi, hg.spec hs, Bool.false_eq_true, if_false]
  exact ⟨hS w hw, next _ _ (hs.put hd undef) hw⟩
theorem wid_done (hr : Region.ready .any ops listed = []) (h : EX Q .normal n R L) : WPDI F P ops Q n k R0 R L fuel listed := by
  intro a w hs hw
  cases fuel with
  | zero => exact ⟨hr, h a w hs hw⟩
  | succ f => exact ⟨fun _ => h a w hs hw, fun i hi => by rw [hr] at hi; cases hi⟩
theorem wid_weaken {R1 : World → Prop} {L1 : Slots} (hl : ∀ u v, get L1 u = some v → get L u = some v) (next : WPDI F P ops Q n k R0 R L1 fuel listed) : WPDI F P ops Q n k R0 R L fuel listed := fun a w hs hr => next a w (hs.weaken hl) hr
theorem wid_bool (t : Nat) {c : Bool} (h : get L t = some (.bool c)) (ht : c = true → WPDI F P ops Q n k R0 R ((t, .bool true) :: L) fuel listed) (hf : c = false → WPDI F P ops Q n k R0 R ((t, .bool false) :: L) fuel listed) :
    WPDI F P ops Q n k R0 R L fuel listed := by
  cases c with
  | true => exact fun a w hs hr => ht rfl a w (hs.weaken (get_same h)) hr
  | false => exact fun a w hs hr => hf rfl a w (hs.weaken (get_same h)) hr
theorem wid_bool2 (t t' : Nat) {c : Bool} (h : get L t = some (.bool c)) (h' : get L t' = some (.bool c)) (ht : c = true → WPDI F P ops Q n k R0 R ((t, .bool true) :: (t', .bool true) :: L) fuel listed) (hf : c = false → WPDI F P ops Q n k R0 R ((t, .bool false) :: (t', .bool false) :: L) fuel listed) : WPDI F P ops Q n k R0 R L fuel listed := by
  have key : ∀ u x, get ((t, .bool c) :: (t', .bool c) :: L) u = some x → get L u = some x := fun u x hu => by
    rw [get_cons] at hu
    split at hu
    · rename_i e; subst e; cases hu; exact h
    · exact get_same h' u x hu
  cases c with
  | true => exact fun a w hs hr => ht rfl a w (hs.weaken key) hr
  | false => exact fun a w hs hr => hf rfl a w (hs.weaken key) hr
theorem wid_re (t : Nat) {v v' : Value} (h : get L t = some v) (e : v = v') (next : WPDI F P ops Q n k R0 R ((t, v') :: L) fuel listed) : WPDI F P ops Q n k R0 R L fuel listed := by
  subst e
  exact fun a w hs hr => next a w (hs.weaken (get_same h)) hr
end
end Go.PL
namespace Go.PL
open Go Go.RowKit
section
variable {F : Fence} {P : Program} {n : Cx} {R : World → Prop} {L : Slots} {Q : Exit → Act → World → Prop} {ops : Array Oper} {rest : List Oper} {op : Op} {ty : TypeId} {pos : String} {af : Array Edge} {d : Tmp}
def StabJ {α : Type} (J : List Nat → List α → World → Prop) : Prop := ∀ T T' pre w1 w2, J T pre w1 → Mem w1 T [] [] w2 → (∀ k, k ∈ T' → (k ∈ T ∨ w1.heap.size ≤ k) ∧ k < w2.heap.size) → J T' pre w2
def StabK (K : World → Prop) : Prop := ∀ w1 w2, K w1 → Mem w1 [] [] [] w2 → K w2
def YieldS (P : Program) (l : Nat) {α ι : Type} (encs : α → ι → Array Value) (At : List Nat → α → ι → World → Prop) (xs : List α) (J : List Nat → List α → World → Prop) (K : World → Prop) : Prop :=
  ∀ T pre x i w1, J T pre w1 → (pre ++ [x]) <+: xs → At T x i w1 → YieldAt Fence.wide 0 P l (encs x i) w1 fun e w' =>
    (e = .returned (.bool true) ∧ J T (pre ++ [x]) w' ∧ w1.heap.size ≤ w'.heap.size ∧ ∀ k, k ∈ T → w'.heap[k]? = w1.heap[k]?) ∨ (e = .returned (.bool false) ∧ K w')
def IterStop (P : Program) (gf : FuncId) (lb : Array Value) {α ι : Type} (encs : α → ι → Array Value) (At : List Nat → α → ι → World → Prop) (Inv : World → Prop) (xs : List α) (T0 : List Nat) (W : World) : Prop :=
  ∀ (l : Nat) (J : List Nat → List α → World → Prop) (K : World → Prop), StabJ J → (∀ T pre w1, J T pre w1 → Inv w1) → StabK K → YieldS P l encs At xs J K →
    J T0 [] W → Calls P gf (#[.func (.yield l) #[] #[]] ++ lb) W fun e w' => (∃ v, e = .returned v) ∧ ((∃ T, J T xs w') ∨ K w')
def IterPost {α : Type} (J : List Nat → List α → World → Prop) (K : World → Prop) (xs : List α) (e : Ending) (w : World) : Prop := (∃ v, e = .returned v) ∧ ((∃ T, J T xs w) ∨ K w)
instance nop_iter {fn : Func} {α : Type} {J : List Nat → List α → World → Prop} {K : World → Prop} {xs : List α} : NoP (bodyPost P fn (IterPost J K xs)) := nop_post fun c w' h => by obtain ⟨⟨v, h⟩, _⟩ := h; cases h
theorem iter_done {α : Type} {J : List Nat → List α → World → Prop} {K : World → Prop} {xs : List α} {v : Value} {wb w : World} {T0 : List Nat} {M : List Ent} {S : List Fact} (hst : StabJ J) (hJ : J T0 xs wb) (h : Mem wb T0 M S w) : IterPost J K xs (.returned v) w :=
  ⟨⟨v, rfl⟩, .inl ⟨[], hst _ _ _ _ _ hJ (h.sub .nil .nil) (fun k hk => by cases hk)⟩⟩
theorem iter_stop {α : Type} {J : List Nat → List α → World → Prop} {K : World → Prop} {xs : List α} {v : Value} {wb w : World} {M : List Ent} {S : List Fact} (hst : StabK K) (hK : K wb) (h : Mem wb [] M S w) : IterPost J K xs (.returned v) w :=
  ⟨⟨v, rfl⟩, .inr (hst _ _ hK (h.sub .nil .nil))⟩
def RoundPostS (R' : World → Prop) (S' : Code → World → Prop) : Exit → Act → World → Prop
  | .normal, _, w => R' w
  | .ret, _, w => S' .ret w
  | .exit id, _, w => S' (.exit id) w
  | _, _, _ => False
instance nop_roundS {R' : World → Prop} {S' : Code → World → Prop} : NoP (RoundPostS R' S') := ⟨fun _ _ _ _ _ h => h.elim⟩
theorem ex_roundN {R' : World → Prop} {S' : Code → World → Prop} (h : ∀ w, R w → R' w) : EX (RoundPostS R' S') .normal n R L := fun a w hs hr => h w hr
theorem ex_roundR {R' : World → Prop} {S' : Code → World → Prop} (h : ∀ w, R w → S' .ret w) : EX (RoundPostS R' S') .ret n R L := fun a w hs hr => h w hr
theorem ex_roundE {R' : World → Prop} {S' : Code → World → Prop} {id : Nat} (h : ∀ w, R w → S' (.exit id) w) : EX (RoundPostS R' S') (.exit id) n R L := fun a w hs hr => h w hr
theorem nums_lt {w0 w : World} {Ln : List Nat} {M : List Ent} {S : List Fact} (h : Mem w0 Ln M S w) : ∀ k, k ∈ nums M → (k ∈ Ln ∨ w0.heap.size ≤ k) ∧ k < w.heap.size := fun k hk => by
  obtain ⟨e, he, hn⟩ := mem_nums.1 hk
  exact ⟨(h.new e he k hn).symm, Ent.lt (h.own e he) hn⟩
theorem Mem.again {w0 w w' : World} {Ln : List Nat} {M : List Ent} {S : List Fact} (h : Mem w0 Ln M S w) (hk : ∀ k, k ∈ nums M → w'.heap[k]? = w.heap[k]?) : Mem w' (nums M) M [] w' :=
  Mem.startL w' (fun e he => Ent.kept (h.own e he) fun k hn => hk k (mem_nums.2 ⟨e, he, hn⟩)) h.apart
abbrev YI {α : Type} (J : List Nat → List α → World → Prop) (K : World → Prop) (T : List Nat) (pre : List α) (y : α) : Type := { u : World // J T (pre ++ [y]) u } ⊕ { u : World // K u }
def yiV {A B : Type} : A ⊕ B → Value
  | .inl _ => .bool true
  | .inr _ => .bool false
def yiR {p q : World → Prop} (M : List Ent) : { u : World // p u } ⊕ { u : World // q u } → World → Prop
  | .inl u => Mem u.1 (nums M) M []
  | .inr u => Mem u.1 [] [] []
theorem yield_at {l : Nat} {vs : List Value} {α ι : Type} {encs : α → ι → Array Value} {At : List Nat → α → ι → World → Prop} {xs : List α} {J : List Nat → List α → World → Prop} {K : World → Prop}
    {wb : World} {T0 : List Nat} {M : List Ent} {S : List Fact} {pre : List α} {y : α} {i : ι} (hst : StabJ J) (hy : YieldS P l encs At xs J K) (hJ : J T0 pre wb) (hpre : (pre ++ [y]) <+: xs) (he : encs y i = vs.toArray)
    {w : World} (hAt : At (nums M) y i w) (h : Mem wb T0 M S w) : YieldAt Fence.wide 0 P l vs.toArray w fun e w' => ∃ s : YI J K (nums M) pre y, e = .returned (yiV s) ∧ yiR M s w' := by
  have hJ' : J (nums M) pre w := hst _ _ _ _ _ hJ (h.sub .nil .nil) (nums_lt h)
  obtain ⟨fn, tmps, assign, body, hrun, hround⟩ := hy (nums M) pre y i w hJ' hpre hAt
  rw [he] at hrun
  refine ⟨fn, tmps, assign, body, hrun, hround.mono ?_⟩
  rintro e w' (⟨rfl, j1, j2, j3⟩ | ⟨rfl, hk⟩)
  · exact ⟨.inl ⟨w', j1⟩, rfl, h.again j3⟩
  · exact ⟨.inr ⟨w', hk⟩, rfl, Mem.start w'⟩
theorem wpIn_yieldOp {x : Operand} {args : Array Operand} {at_ : Array TypeId} {l : Nat} {vs : List Value} {ι : Type} {V : ι → Value} {R' : ι → World → Prop} {g : Option (Nat × Bool)} {a : Act} {w : World} {Kc : Act → World → Prop} (hs : Sl n a L) (hx : ev L x = some (.func (.yield l) #[] #[])) (hv : evs L args.toList = some vs)
    (hy : YieldAt Fence.wide 0 P l vs.toArray w fun e w' => ∃ i, e = .returned (V i) ∧ R' i w') (hK : ∀ i w', R' i w' → Kc (a.put (some d) (V i)) w') :
    Oper.wpIn Fence.wide 0 P ⟨some d, .call { callee := .value x, args := args, argTypes := at_ }, ty, pos, af, g⟩ a w Kc Q := by
  have hargs : args.map a.eval = vs.toArray := by
    have e : (args.map a.eval).toList = vs := by rw [Array.toList_map]; exact evs_eval hs hv
    rw [← e]
  obtain ⟨fn, tmps, assign, body, hrun, hround⟩ := hy
  refine ⟨fun f _ => trivial, ?_⟩
  have hrun' : (execOp a.eval ⟨some d, .call { callee := .value x, args := args, argTypes := at_ }, ty, pos, af, g⟩).run P w = .ok (.round l fn tmps assign body) w := by
    simp only [execOp, resolve, hs.eval hx, hargs]
    simp [Deferred.ofValue, invoke, hrun]
  have hsem : Oper.semAt Fence.wide.round a.eval ⟨some d, .call { callee := .value x, args := args, argTypes := at_ }, ty, pos, af, g⟩ = execOp a.eval ⟨some d, .call { callee := .value x, args := args, argTypes := at_ }, ty, pos, af, g⟩ := rfl
  rw [hsem, hrun']
  refine ⟨fun e => by simp [Fence.wide] at e, ?_⟩
  refine RoundIn.mono hround ?_
  rintro e w' ⟨i, rfl, h'⟩
  exact hK i w' h'
theorem wil_yieldS {x : Operand} {args : Array Operand} {at_ : Array TypeId} {l : Nat} {vs : List Value} {α ι : Type} {encs : α → ι → Array Value} {At : List Nat → α → ι → World → Prop} {xs : List α} {J : List Nat → List α → World → Prop} {K : World → Prop}
    {wb : World} {T0 : List Nat} {M : List Ent} {S : List Fact} {pre : List α} (y : α) (i : ι)
    (hx : ev L x = some (.func (.yield l) #[] #[])) (hv : evs L args.toList = some vs) (hst : StabJ J) (hy : YieldS P l encs At xs J K) (hJ : J T0 pre wb) (hpre : (pre ++ [y]) <+: xs) (he : encs y i = vs.toArray)
    (hAt : ∀ w, Mem wb T0 M S w → At (nums M) y i w) (hd : Nat.blt d n.n = true)
    (ht : ∀ u, J (nums M) (pre ++ [y]) u → WPLI Fence.wide P ops Q n (Mem u (nums M) M []) ((d, .bool true) :: L) rest)
    (hf : ∀ u, K u → WPLI Fence.wide P ops Q n (Mem u [] [] []) ((d, .bool false) :: L) rest) :
    WPLI Fence.wide P ops Q n (Mem wb T0 M S) L (⟨some d, .call { callee := .value x, args := args, argTypes := at_ }, ty, pos, af, none⟩ :: rest) := by
  refine wpli_yield (l := l) (ι := YI J K (nums M) pre y) (V := yiV) (R' := yiR M) hx hv (fun w h => yield_at hst hy hJ hpre he (hAt w h) h) hd ?_
  rintro (u | u)
  · exact ht u.1 u.2
  · exact hf u.1 u.2
theorem wid_yieldS {x : Operand} {args : Array Operand} {at_ : Array TypeId} {l : Nat} {vs : List Value} {α ι : Type} {encs : α → ι → Array Value} {At : List Nat → α → ι → World → Prop} {xs : List α} {J : List Nat → List α → World → Prop} {K : World → Prop}
    {wb : World} {T0 : List Nat} {M : List Ent} {S : List Fact} {pre : List α} {k fuel : Nat} {R0 : World → Prop} {listed : Array Bool} {g : Option (Nat × Bool)} (j : Nat) (y : α) (i : ι)
    (hi : ops[j]? = some ⟨some d, .call { callee := .value x, args := args, argTypes := at_ }, ty, pos, af, g⟩) (hr : Region.ready .any ops listed = [j]) (hg : Wants ops L g)
    (hx : ev L x = some (.func (.yield l) #[] #[])) (hv : evs L args.toList = some vs) (hst : StabJ J) (hy : YieldS P l encs At xs J K) (hJ : J T0 pre wb) (hpre : (pre ++ [y]) <+: xs) (he : encs y i = vs.toArray)
    (hAt : ∀ w, Mem wb T0 M S w → At (nums M) y i w) (hd : Nat.blt d n.n = true) (hk : (listed.setIfInBounds j true).getD k false = true)
    (ht : ∀ u, J (nums M) (pre ++ [y]) u → WPDI Fence.wide P ops Q n k R0 (Mem u (nums M) M []) ((d, .bool true) :: L) fuel (listed.setIfInBounds j true))
    (hf : ∀ u, K u → WPDI Fence.wide P ops Q n k R0 (Mem u [] [] []) ((d, .bool false) :: L) fuel (listed.setIfInBounds j true)) :
    WPDI Fence.wide P ops Q n k R0 (Mem wb T0 M S) L (fuel + 1) listed := by
  refine wid_one j hr fun a w hs h => ?_
  unfold wpOpIn
  simp only [hi, hg.spec hs, if_true]
  refine wpIn_yieldOp (V := yiV) (R' := yiR M) hs hx hv (yield_at hst hy hJ hpre he (hAt w h) h) ?_
  rintro (u | u) w' hr'
  · exact ⟨.inl hk, ht u.1 u.2 _ _ (hs.put hd _) hr'⟩
  · exact ⟨.inl hk, hf u.1 u.2 _ _ (hs.put hd _) hr'⟩
theorem wpc_draw_y {id : Nat} {l : List Oper} (k : Nat) (hm : P.follows .mixedOrders = true) (hdr : ∀ w : World, R w → R { w with drawn := w.drawn + 1 })
    (h : WPDI Fence.wide P l.toArray Q n k R R L l.length (Array.replicate l.length false)) : WPC P Q n R L (.region id l.toArray true) := fun a w hs hr => (wpIn_wide (n := 0)).1 (wic_draw k hm hdr h a w hs hr)
end
section
variable {w0 w : World} {Ln : List Nat} {M : List Ent} {S : List Fact}
theorem inM_perm {M M' : List Ent} (hp : M.Perm M') (k : Nat) : inM M' k = inM M k := by
  rw [Bool.eq_iff_iff, inM_iff, inM_iff]
  exact ⟨fun ⟨e, he, hn⟩ => ⟨e, hp.mem_iff.2 he, hn⟩, fun ⟨e, he, hn⟩ => ⟨e, hp.mem_iff.1 he, hn⟩⟩
theorem Mem.perm {M' : List Ent} (h : Mem w0 Ln M S w) (hp : M.Perm M') : Mem w0 Ln M' S w := by
  refine ⟨h.os, h.tape, h.output, h.size, h.old, fun e he => h.own e (hp.mem_iff.2 he), fun e he => h.new e (hp.mem_iff.2 he), ?_, fun s hs => s.mono _ _ (fun a v hv => ?_) (h.facts s hs)⟩
  · exact (List.Perm.pairwise_iff (fun {x y} hxy k hk hk2 => hxy k hk2 hk) hp).1 h.apart
  · simp only [rdF] at hv ⊢
    rw [inM_perm hp]; exact hv
theorem Mem.beside {w' : World} {N : List Ent} {T : List Fact} (h : Mem w0 Ln M S w) (h2 : Mem w [] N T w') : Mem w0 Ln (N ++ M) S w' := by
  have := h.call h2.below (h2.made (Sub.refl _) .nil)
  exact this
end
theorem sub_app {α : Type} : ∀ (a b : List α), Sub b (a ++ b)
  | [], b => Sub.refl b
  | x :: a, b => .drop (sub_app a b)
theorem wpc_rangeS {P : Program} {Q : Exit → Act → World → Prop} {gx : Operand} {ps : Array Tmp} {assign body : Code} {k : Nat} {L : Slots} {w0 : World} {Ln : List Nat} {S : List Fact} {α ι ρ σ β : Type} {gf : FuncId} {lb : Array Value}
    {encs : α → ι → Array Value} {At : List Nat → α → ι → World → Prop} {Inv : World → Prop} {xs : List α} (E0 : List Ent) (M : σ → List Ent) (g : List α → σ → Prop) (s0 : σ) (pr : ρ → Prop) (cd : ρ → Code) (Mr : ρ → List Ent) (Ma : α → ι → β → List Ent) (L1 : α → ι → β → Slots)
    (hg : ev L gx = some (.func (.func gf) #[] lb)) (hbd : HasBody P gf) (h0 : g [] s0)
    (hE0 : ∀ w, Mem w0 Ln (E0 ++ M s0) S w → ∀ k, k ∈ nums E0 → w0.heap.size ≤ k)
    (hit : ∀ w, Mem w0 Ln (E0 ++ M s0) S w → IterStop P gf lb encs At Inv xs (nums E0) w) (hInv : ∀ pre s w, g pre s → Mem w0 Ln (M s) [] w → Inv w)
    (hAt : ∀ T x i w w', At T x i w → (∀ j, j ∈ T → w'.heap[j]? = w.heap[j]?) → At T x i w')
    (hps : ∀ x i, (encs x i).size = ps.size) (hpk : ∀ p ∈ ps.toList, p < k)
    (hassign : ∀ (l : Nat) (x : α) (i : ι) (w1 : World) (K : Act → World → Prop), (∀ b a w, Sl ⟨k, []⟩ a (L1 x i b) → Mem w1 [] (Ma x i b) [] w → K a w) →
      WPCI (Fence.wide.inRound l) P (Exit.then K (fun _ _ _ => False)) ⟨k, []⟩ (Mem w1 [] [] []) (addSlots ps.toList (encs x i).toList L) assign)
    (hbody : ∀ (l : Nat) (pre : List α) (x : α) (i : ι) (s : σ) (b : β) (w1 : World) (T : List Nat), g pre s → (pre ++ [x]) <+: xs → Mem w0 Ln (Ma x i b ++ M s) [] w1 → At T x i w1 → (∀ j, j ∈ T → w0.heap.size ≤ j ∧ inM (Ma x i b ++ M s) j = false) →
      WPCI (Fence.wide.inRound l) P (RoundPostS (fun w' => ∃ s', g (pre ++ [x]) s' ∧ Mem w1 (nums (Ma x i b ++ M s)) (M s') [] w') (fun c w' => ∃ r, pr r ∧ cd r = c ∧ Mem w1 (nums (Ma x i b ++ M s)) (Mr r) [] w')) ⟨k, []⟩ (Mem w1 (nums (Ma x i b ++ M s)) (Ma x i b ++ M s) []) (L1 x i b) body)
    (hdone : ∀ D s, g xs s → EX Q .normal ⟨k, [mark D]⟩ (Mem w0 Ln (.obj D (.deferred (some [])) :: M s) []) L)
    (hstop : ∀ D r, pr r → WPC P Q ⟨k, [mark D]⟩ (Mem w0 Ln (.obj D (.deferred (some [])) :: Mr r) []) L (cd r)) :
    WPC P Q ⟨k, []⟩ (Mem w0 Ln (E0 ++ M s0) S) L (.rangeFunc gx ps assign body) := by
  intro a w hs hr
  refine (wpIn_wide (n := 0)).1 (wpIn_rangeFunc ?_)
  intro fn hfn
  obtain ⟨rec, hrec⟩ : ∃ rec : LoopState → Option Code → Loop, rec = fun st pe => { state := st, pending := pe, fn, tmps := a.tmps, params := ps, assign, body, defers := w.heap.size } := ⟨_, rfl⟩
  obtain ⟨W1, hW1⟩ : ∃ W1, (w.alloc (.deferred (some []))).alloc (.loop (rec .ready none)) = W1 := ⟨_, rfl⟩
  have hM1 : Mem w0 Ln (.obj (w.heap.size + 1) (.loop (rec .ready none)) :: .obj w.heap.size (.deferred (some [])) :: (E0 ++ M s0)) S W1 := by
    have := (hr.allocO (.deferred (some []))).allocO (.loop (rec .ready none))
    rw [World.size_alloc] at this
    rw [← hW1]; exact this
  have hsz1 : W1.heap.size = w.heap.size + 2 := by rw [← hW1]; simp
  have hw0 := hr.size
  have hr1 : Mem w0 Ln (E0 ++ M s0) S W1 := hM1.sub (.drop (.drop (Sub.refl _))) (Sub.refl _)
  refine ⟨w.heap.size + 1, [mark w.heap.size], W1, { target := .fn (.func gf) lb, args := #[.func (.yield (w.heap.size + 1)) #[] #[]] }, W1, gf, #[.func (.yield (w.heap.size + 1)) #[] #[]] ++ lb, W1, ?_, ?_, fun _ _ => trivial, ?_, fun e => by simp [Fence.wide] at e, ?_⟩
  · rw [← hW1, hrec]; exact run_enterLoop_outer _ _ _ _ _
  · simp only [resolve, rangeCall, hs.eval hg]
    simp [go_sem]
  · simp [invoke, run_callFunc hbd]
  · refine callsIn_wide.2 ?_
    let J : List Nat → List α → World → Prop := fun T pre w' => ∃ s, g pre s ∧ Mem w0 Ln (.obj (w.heap.size + 1) (.loop (rec .ready none)) :: .obj w.heap.size (.deferred (some [])) :: M s) [] w' ∧ W1.heap.size ≤ w'.heap.size ∧
      ∀ j, j ∈ T → w0.heap.size ≤ j ∧ j ≠ w.heap.size ∧ j ≠ w.heap.size + 1 ∧ inM (M s) j = false ∧ j < w'.heap.size
    let Kx : World → Prop := fun w' => ∃ r, pr r ∧ Mem w0 Ln (.obj (w.heap.size + 1) (.loop (rec .done (some (cd r)))) :: .obj w.heap.size (.deferred (some [])) :: Mr r) [] w'
    have hJ0 : J (nums E0) [] W1 := by
      refine ⟨s0, h0, hM1.sub (.keep (.keep (sub_app _ _))) .nil, Nat.le_refl _, fun j hj => ?_⟩
      obtain ⟨e, he, hn⟩ := mem_nums.1 hj
      have hlt := Ent.lt (hr.own e (List.mem_append_left _ he)) hn
      refine ⟨hE0 w hr j hj, zz12, zz12, ?_, zz12⟩
      cases hm : inM (M s0) j
      · rfl
      · obtain ⟨f, hf, hfn⟩ := inM_iff.1 hm
        exact absurd hfn ((List.pairwise_append.1 hr.apart).2.2 e he f hf j hn)
    refine (hit W1 hr1 (w.heap.size + 1) J Kx ?_ ?_ ?_ ?_ hJ0).mono ?_
    · rintro T T' pre w1 w2 ⟨s, hgs, j1, j2, j3⟩ hc hT
      have hnot : ∀ j, j ∈ T → w0.heap.size ≤ j ∧ inM (.obj (w.heap.size + 1) (.loop (rec .ready none)) :: .obj w.heap.size (.deferred (some [])) :: M s) j = false := fun j hj => by
        obtain ⟨a1, a2, a3, a4, _⟩ := j3 j hj
        refine ⟨a1, ?_⟩
        simp only [inM, List.any_cons, Bool.or_eq_false_iff, Ent.num]
        refine ⟨zz50, zz50, a4⟩
      refine ⟨s, hgs, j1.chg hc hnot, Nat.le_trans j2 hc.size, fun j hj => ?_⟩
      obtain ⟨h1, h2⟩ := hT j hj
      rcases h1 with h1 | h1
      · obtain ⟨a1, a2, a3, a4, _⟩ := j3 j h1
        exact ⟨a1, a2, a3, a4, h2⟩
      · refine ⟨zz12, zz12, zz12, ?_, h2⟩
        cases hm : inM (M s) j
        · rfl
        · obtain ⟨e, he, hn⟩ := inM_iff.1 hm
          have := Ent.lt (j1.own e (List.mem_cons_of_mem _ (List.mem_cons_of_mem _ he))) hn
          omega
    · rintro T pre w1 ⟨s, hgs, j1, _⟩
      exact hInv pre s w1 hgs (j1.sub (.drop (.drop (Sub.refl _))) .nil)
    · rintro w1 w2 ⟨r, hp, hk⟩ hc
      exact ⟨r, hp, hk.chg hc (fun _ h => by cases h)⟩
    · rintro T pre x i w1 ⟨s, hgs, j1, j2, j3⟩ hpre hat
      have hl : w1.heap[w.heap.size + 1]? = some (.loop (rec .ready none)) := j1.own _ (List.mem_cons_self ..)
      have hy := run_yield (P := P) (args := encs x i) hl (by rw [hrec]; exact hps x i)
      rw [hrec] at hy
      refine ⟨fn, _, assign, body, hy, roundIn_of_wpIn hfn ?_⟩
      have hsl : Sl ⟨k, []⟩ { tmps := ((ps.zip (encs x i)).foldl (fun t (p, v) => t.setIfInBounds p v) a.tmps), defers := [] } (addSlots ps.toList (encs x i).toList L) := by
        have hs0 : Sl ⟨k, []⟩ { tmps := a.tmps, defers := [] } L := ⟨hs.size, rfl, hs.tmp⟩
        have := sl_adds ps.toList (encs x i).toList L a.tmps k (by simpa using (hps x i).symm) hpk hs0
        rw [← Array.foldl_toList, Array.toList_zip]
        exact this
      refine hassign (w.heap.size + 1) x i w1 _ (fun b a1 wa hs1 hwa => ?_) _ w1 hsl (Mem.start w1)
      have jA := j1.beside hwa
      have hla : wa.heap[w.heap.size + 1]? = some (.loop (rec .ready none)) := jA.own _ (List.mem_append_right _ (List.mem_cons_self ..))
      have jA2 : Mem w0 Ln (.obj (w.heap.size + 1) (.loop (rec .ready none)) :: .obj w.heap.size (.deferred (some [])) :: (Ma x i b ++ M s)) [] wa :=
        jA.perm (List.perm_middle.trans (.cons _ List.perm_middle))
      obtain ⟨w2, hw2⟩ : ∃ w2, wa.putObj (w.heap.size + 1) (.loop { rec .ready none with state := .busy }) = w2 := ⟨_, rfl⟩
      have j4 : Mem w0 Ln ([.obj (w.heap.size + 1) (.loop { rec .ready none with state := .busy }), .obj w.heap.size (.deferred (some []))] ++ (Ma x i b ++ M s)) [] w2 := by
        rw [← hw2]; exact jA2.putO .here
      have hbr : (Instr.beginRound (w.heap.size + 1)).run P wa = .ok () w2 := by rw [← hw2]; exact run_beginRound hla (by rw [hrec])
      have hm2 : Mem w0 Ln (Ma x i b ++ M s) [] w2 := j4.sub (.drop (.drop (Sub.refl _))) .nil
      have hsa := hwa.size
      have hs2 : w2.heap.size = wa.heap.size := by rw [← hw2]; simp
      have hT2 : ∀ j, j ∈ T → w2.heap[j]? = w1.heap[j]? := fun j hj => by
        rw [← hw2, World.putObj_heap_other (j3 j hj).2.2.1]
        exact hwa.old j (j3 j hj).2.2.2.2 zz40
      have hTM : ∀ j, j ∈ T → inM (Ma x i b ++ M s) j = false := fun j hj => by
        rw [inM_append, Bool.or_eq_false_iff]
        refine ⟨?_, (j3 j hj).2.2.2.1⟩
        cases hm : inM (Ma x i b) j
        · rfl
        · obtain ⟨e, he, hn⟩ := inM_iff.1 hm
          have h1 := (hwa.new e he j hn).resolve_right zz40
          have := (j3 j hj).2.2.2.2
          omega
      have hbd2 := hbody (w.heap.size + 1) pre x i s b w2 T hgs hpre hm2 (hAt T x i w1 w2 hat hT2) (fun j hj => ⟨(j3 j hj).1, hTM j hj⟩)
      refine ⟨w2, hbr, wpIn_mono (hbd2 a1 w2 hs1 (by have := hm2.base; exact this)) ?_⟩
      have stop : ∀ (c : Code) (w3 : World), (∃ r, pr r ∧ cd r = c ∧ Mem w2 (nums (Ma x i b ++ M s)) (Mr r) [] w3) → (Instr.endRound (w.heap.size + 1) (some c)).run P w3 = .ok (.bool false) (w3.putObj (w.heap.size + 1) (.loop (rec .done (some c)))) ∧ Kx (w3.putObj (w.heap.size + 1) (.loop (rec .done (some c)))) := by
        rintro c w3 ⟨r, hp, rfl, hm3⟩
        have j5 := j4.framed hm3
        have hl3 : w3.heap[w.heap.size + 1]? = some (.loop { rec .ready none with state := .busy }) := j5.own _ (List.mem_cons_self ..)
        have hend := run_endRound (P := P) (some (cd r)) hl3
        rw [hrec] at hend
        refine ⟨?_, r, hp, j5.putO .here⟩
        rw [hrec]; exact hend
      rintro e a3 w3 hp
      cases e with
      | normal =>
        obtain ⟨s', hgs', hp'⟩ : ∃ s', g (pre ++ [x]) s' ∧ Mem w2 (nums (Ma x i b ++ M s)) (M s') [] w3 := hp
        have j5 := j4.framed hp'
        have hl3 : w3.heap[w.heap.size + 1]? = some (.loop { rec .ready none with state := .busy }) := j5.own _ (List.mem_cons_self ..)
        have hend := run_endRound (P := P) none hl3
        have hback : { { rec .ready none with state := .busy } with state := if (none : Option Code).isNone then .ready else .done, pending := none } = rec .ready none := by rw [hrec]; rfl
        rw [hback] at hend
        have hnT : ∀ j, j ∈ T → j ∉ nums (Ma x i b ++ M s) := fun j hj hm => by
          obtain ⟨e, he, hn⟩ := mem_nums.1 hm
          exact inM_not (hTM j hj) e he hn
        have hTs : ∀ j, j ∈ T → (w3.putObj (w.heap.size + 1) (.loop (rec .ready none))).heap[j]? = w1.heap[j]? := fun j hj => by
          rw [World.putObj_heap_other (j3 j hj).2.2.1, hp'.old j (by have := (j3 j hj).2.2.2.2; omega) (hnT j hj)]
          exact hT2 j hj
        have hsz3 := hp'.size
        refine ⟨_, _, hend, .inl ⟨rfl, ⟨s', hgs', ?_, ?_, fun j hj => ⟨(j3 j hj).1, (j3 j hj).2.1, (j3 j hj).2.2.1, ?_, ?_⟩⟩, by rw [World.putObj_size]; omega, hTs⟩⟩
        · exact j5.putO .here
        · rw [World.putObj_size]; omega
        · cases hm : inM (M s') j
          · rfl
          · obtain ⟨e, he, hn⟩ := inM_iff.1 hm
            rcases hp'.new e he j hn with h | h
            · have := (j3 j hj).2.2.2.2; omega
            · exact absurd h (hnT j hj)
        · rw [World.putObj_size]; have := (j3 j hj).2.2.2.2; omega
      | ret =>
        obtain ⟨h1, h2⟩ := stop .ret w3 hp
        exact ⟨_, _, h1, .inr ⟨rfl, h2⟩⟩
      | exit id =>
        obtain ⟨h1, h2⟩ := stop (.exit id) w3 hp
        exact ⟨_, _, h1, .inr ⟨rfl, h2⟩⟩
      | goto t => exact (hp : False).elim
      | panic ch => exact (hp : False).elim
      | outgrown => exact (hp : False).elim
    · rintro e w2 ⟨⟨v, rfl⟩, (⟨T, s, hgs, j1, j2, j3⟩ | ⟨r, hp, hk⟩)⟩
      · have hl : w2.heap[w.heap.size + 1]? = some (.loop (rec .ready none)) := j1.own _ (List.mem_cons_self ..)
        have hend := run_endLoop (P := P) hl (by rw [hrec]; simp)
        have hpn : (rec .ready none).pending = none := by rw [hrec]
        rw [hpn] at hend
        refine ⟨none, _, hend, ?_⟩
        have hd : a.defers = [] := hs.defers
        refine hdone w.heap.size s hgs _ _ ⟨hs.size, by simp [hd], hs.tmp⟩ ?_
        exact (j1.putO .here).sub (.drop (Sub.refl _)) .nil
      · have hl : w2.heap[w.heap.size + 1]? = some (.loop (rec .done (some (cd r)))) := hk.own _ (List.mem_cons_self ..)
        have hend := run_endLoop (P := P) hl (by rw [hrec]; simp)
        have hpn : (rec .done (some (cd r))).pending = some (cd r) := by rw [hrec]
        rw [hpn] at hend
        refine ⟨some (cd r), _, hend, ?_⟩
        have hd : a.defers = [] := hs.defers
        refine (wpIn_wide (n := 0)).2 (hstop w.heap.size r hp _ _ ⟨hs.size, by simp [hd], hs.tmp⟩ ?_)
        exact (hk.putO .here).sub (.drop (Sub.refl _)) .nil
def NPQ (Q : Exit → Act → World → Prop) : Exit → Act → World → Prop
  | .panic _, _, _ => False
  | e, a, w => Q e a w
instance nop_np {Q : Exit → Act → World → Prop} : NoP (NPQ Q) := ⟨fun _ _ _ _ _ h => h.elim⟩
theorem wpc_np {P : Program} {Q : Exit → Act → World → Prop} {n : Cx} {R : World → Prop} {L : Slots} {c : Code} (h : WPC P (NPQ Q) n R L c) : WPC P Q n R L c := fun a w hs hr =>
  (wpIn_wide (n := 0)).1 (wpIn_mono ((wpIn_wide (n := 0)).2 (h a w hs hr)) (fun e a w hq => by cases e <;> first | exact hq | exact hq.elim))
theorem enterN {P : Program} {R : World → Prop} {f : FuncId} {fn : Func} {c : Code} {args : List Value} {w0 : World} {post : Ending → World → Prop}
    (hf : P.funcs[f]? = some fn) (hb : fn.body = some c) {m : Nat} (hn : fn.ntmps = m) (hna : args.length ≤ m) (h0 : R w0)
    (h : WPC P (NPQ (bodyPostM Fence.wide 0 P fn post)) ⟨m, []⟩ R (argSlots 0 args) c) : Calls P f args.toArray w0 post := enterM hf hb hn hna h0 (wpc_np h)
theorem ex_markN {P : Program} {fn : Func} {post : Ending → World → Prop} {m D : Nat} {e : Exit} {L : Slots} {w0 : World} {Ln : List Nat} {M M' : List Ent} {S : List Fact} (he : e = .ret ∨ e = .normal) (hr : Repl M (.obj D (.deferred (some []))) (.obj D (.deferred none)) M')
    (h : EX (bodyPost P fn post) e ⟨m, []⟩ (Mem w0 Ln M' S) L) : EX (NPQ (bodyPostM Fence.wide 0 P fn post)) e ⟨m, [mark D]⟩ (Mem w0 Ln M S) L := fun a w hs hr' => by
  have := ex_mark he hr h a w hs hr'
  rcases he with rfl | rfl <;> exact this
end Go.PL
namespace Go.PL
open Go Go.RowKit
section
variable {P : Program} {n : Cx} {R : World → Prop} {L : Slots} {Q : Exit → Act → World → Prop}
variable {w0 : World} {Ln : List Nat} {M : List Ent} {S : List Fact}
theorem zeroCells_list (z : Array Value) (k : Nat) : (Builtin.zeroCells z k).toList = (List.replicate k z.toList).flatten := made_list z z.size rfl k
theorem t_apZ {t tn e : TypeId} {s x : Operand} {k : Nat} {kk kn : IntKind} {z : Value} {sz by_ : Nat} (hu : P.underlying t = some (.slice e)) (hun : P.underlying tn = some (.int kn)) (he : TyI P e z sz by_) (hz1 : z.cells.size = sz) (hsz : 0 < sz)
    (hs_ : ev L s = some (.slice none 0 0)) (hx : ev L x = some (.int kk ((k : Nat) : Int))) (h0 : 0 < k) (h63 : k ≤ maxLen) (hby : k * by_ ≤ 140737488355328) (xs : List Value) (hxs : (List.replicate k z.cells.toList).flatten = xs) :
    TOpP P Q n (Mem w0 Ln M S) L (.call { callee := .builtin .append, args := #[s, x], argTypes := #[t, tn] }) Value (fun v => SV v k) (fun v => v) (fun v => Mem w0 Ln (.row v k e sz xs :: M) S) := by
  have h : TOp P Q n (Mem w0 Ln M S) L (.call { callee := .builtin .append, args := #[s, x], argTypes := #[t, tn] }) { v : Value // SV v k } (fun v => v.1) (fun v => Mem w0 Ln (.row v.1 k e sz xs :: M) S) := by
    intro d ty pos af g a w K hs hm hk
    obtain ⟨i, hi, hz, hsz', hby'⟩ := he.info
    subst hsz' hby'
    have r := Lib.run_append_nil_zeros (P := P) w t tn ty e i z kk kn hu hun hi hz k h0 zz12 (by simp only [maxLen] at h63; omega) zz12
    have hge := grownCap_ge w k 0 e
    have hle := grownCap_le_maxLen w k 0 e h63
    have hrun : (execOp a.eval ⟨d, .call { callee := .builtin .append, args := #[s, x], argTypes := #[t, tn] }, ty, pos, af, g⟩).run P w = .ok (.value (.slice (some ⟨w.heap.size, 0, none⟩) k (grownCap w k 0 e)))
        (w.drew.alloc (.cells (Builtin.zeroCells z.cells k ++ Builtin.zeroCells z.cells (grownCap w k 0 e - k)) e)) := by
      simp only [execOp, resolve, invoke, builtin, Sem.run_bind, Sem.run_pure, Result.andThen_ok, List.map_toArray, List.map_cons, List.map_nil, hs.eval hs_, hs.eval hx, r]
    unfold Oper.wp
    rw [hrun]
    have hd : Mem w0 Ln M S w.drew := hm.drew
    have hcs : (Builtin.zeroCells z.cells k ++ Builtin.zeroCells z.cells (grownCap w k 0 e - k)) = (xs ++ (Builtin.zeroCells z.cells (grownCap w k 0 e - k)).toList).toArray := by
      apply Array.ext'
      simp [zeroCells_list, hxs]
    have hxl : xs.length = k * i.size := by
      rw [← hxs, List.length_flatten, List.map_replicate, List.sum_replicate_nat, Array.length_toList, hz1]
    rw [hcs]
    have hal := hd.allocRow e (xs ++ (Builtin.zeroCells z.cells (grownCap w k 0 e - k)).toList) k (grownCap w k 0 e) i.size xs (by
      rw [List.length_append, hxl, zeroCells_list, List.length_flatten, List.map_replicate, List.sum_replicate_nat, Array.length_toList, hz1, ← Nat.add_mul]; congr 1; omega) hge hle (by rw [← hxl]; exact List.take_left)
    exact hk ⟨_, _, _, rfl, hge, hle, fun e => by cases e⟩ _ hal
  exact h.rep fun v w h => ⟨v.1, v.2, rfl, h⟩
theorem t_copyW {dT sT e : TypeId} {x y : Operand} {v u : Value} {m mu l dl : Nat} {xs vs : List Value} {f : Ent → List Ent} {z : Value} {by_ : Nat} (hu : P.underlying dT = some (.slice e)) (he : TyI P e z 1 by_)
    [hr : ReplV M v m e 1 xs f] (D : Value) (hx : ev L x = some D) (hD : ∀ g cap, v = .slice (some ⟨g, 0, none⟩) m cap → ∃ dc, D = .slice (some ⟨g, l, none⟩) dl dc) (hl : l + dl ≤ m) (hdl : 0 < dl) (hy : ev L y = some u)
    (hsrc : ∀ w, Mem w0 Ln M S w → Seen w.cell? u mu 1 vs) (h1 : ∀ v ∈ vs, v.oneCell' = true) (q : Nat) (hq : min mu dl = q) (ys : List Value) (hys : xs.take l ++ vs.take q ++ xs.drop (l + q) = ys) :
    TOp P Q n (Mem w0 Ln M S) L (.call { callee := .builtin .copy, args := #[x, y], argTypes := #[dT, sT] }) Unit (fun _ => .int .i64 (q : Nat)) (fun _ => Mem w0 Ln (f (.row v m e 1 ys)) S) := by
  intro d ty pos af g a w K hs hm hk
  subst hys
  obtain ⟨i, hi, hz, hsz, _⟩ := he.info
  have hown : w.ownsRow 0 e 1 v m xs := hm.own _ (hr.out (.blk 0 0 [])).mem
  rcases hown.2 with ⟨_, h0⟩ | ⟨gb, cap, cur, hv, _, hg, hmc, hcm, hcs, htake⟩
  · omega
  obtain ⟨dc, rfl⟩ := hD gb cap hv
  have hxl : xs.length = m := by rw [hown.1, Nat.mul_one]
  have hcl : cur.size = cap := by rw [hcs, Nat.mul_one]
  obtain ⟨q1, ad, scap, rfl, q3, q4, q5⟩ := hsrc w hm
  rw [Nat.mul_one] at q1
  have hlv : (vs.take q).length = q := by rw [List.length_take, q1]; omega
  have key : ∃ w', (Builtin.copy_ #[dT, sT] ty #[.slice (some ⟨gb, l, none⟩) dl dc, .slice ad mu scap]).run P w = .ok (.int .i64 (q : Nat)) w' ∧ Mem w0 Ln (f (.row v m e 1 (xs.take l ++ vs.take q ++ xs.drop (l + q)))) S w' := by
    rcases q5 with ⟨rfl, rfl⟩ | ⟨ad', rfl, hc⟩
    · obtain rfl : mu = 0 := by omega
      have e0 : q = 0 := by omega
      subst e0
      refine ⟨w, ?_, ?_⟩
      · have := run_copy_nil (P := P) w dT sT ty e ⟨gb, l, none⟩ dl dc hu (by simp [hi])
        rw [this]; rfl
      · have e1 : xs.take l ++ vs.take 0 ++ xs.drop (l + 0) = xs := by simp
        rw [e1]
        exact hm.turn (hr.out _) rfl rfl rfl (Nat.le_refl _) (fun _ _ _ => rfl) hown (fun k hk => .inl hk)
    · have := run_copy_row (P := P) w dT sT ty e gb l dl dc ad' mu scap cur e (vs.take q) hu (by simp [hi, hsz]) hg (hlv.trans hq.symm)
        (fun j v hj => hc j v (by rw [List.getElem?_take] at hj; split at hj <;> first | exact hj | cases hj)) (by rw [hlv]; omega) (fun v hv => h1 v (List.mem_of_mem_take hv))
      refine ⟨_, this.trans (by rw [hlv]; rfl), ?_⟩
      have hset := Mem.setRowN hm (hr.out (.row v m e 1 (xs.take l ++ vs.take q ++ xs.drop (l + q)))) hv hg (j := l) (vs := vs.take q) (by rw [hlv]; omega) (by rw [hlv])
      rw [hlv] at hset
      exact hset
  obtain ⟨w', r1, r2⟩ := key
  have hrun : (execOp a.eval ⟨d, .call { callee := .builtin .copy, args := #[x, y], argTypes := #[dT, sT] }, ty, pos, af, g⟩).run P w = .ok (.value (.int .i64 (q : Nat))) w' := by
    simp only [execOp, resolve, invoke, builtin, Sem.run_bind, Sem.run_pure, Result.andThen_ok, List.map_toArray, List.map_cons, List.map_nil, hs.eval hx, hs.eval hy, r1]
  unfold Oper.wp
  rw [hrun]
  exact hk () _ r2
theorem q_fieldPo {t : Nat} {x : Operand} {f : Nat} {fs : Array Field} {fd : Field} {ad : Addr} {z : Value} {sz by_ : Nat} (o : Nat) (hu : P.underlying t = some (.struct fs)) (hf : fs[f]? = some fd) (hz : TyI P fd.type z sz by_) (hsz : Nat.beq sz 0 = false)
    (hx : ev L x = some (.pointer (some ad))) (ho : fd.offset = o) : QOp P n R L (.fieldAddr t x f) (.pointer (some (ad.add o))) := ho ▸ q_fieldP hu hf hz hsz hx
theorem q_slNil {t e t' : TypeId} {x y : Operand} {a : Option Addr} {len cap : Nat} (hp : P.underlying t = some (.slice e)) (hx : ev L x = some (.slice a len cap)) (hy : ev L y = some (.slice none 0 0)) (hg : P.eqGuardType P.depth t = false) : QOp P n R L (.binOp .eql t x y t') (.bool a.isNone) := by
  intro d ty pos af g ac w hs _
  have h : ∀ d : Nat, (Op.equalIn (d + 1) t (.slice a len cap) (.slice none 0 0)).run P w = .ok a.isNone w := fun d => by
    cases a <;> simp [Op.equalIn, run_underlying hp]
  simp only [execOp, hs.eval hx, hs.eval hy]
  have h2 : (binOp .eql t (.slice a len cap) (.slice none 0 0)).run P w = .ok (.bool a.isNone) w := by
    simp only [binOp]
    simp [Op.equal, Op.maxDepth, h 9999]
  simp [eqGuard, hg, h2]
end
end Go.PL
namespace Go.PL
open Go Go.RowKit Go.ChangeShapes Go.Deep
section
variable {H : Type} {enc : TypeId × Value → H} {P : Program} {w : World} {base : Nat} {sp : Nat → Bool} {held : Bool}
def OpensFs (enc : TypeId × Value → H) (P : Program) (w : World) (base : Nat) (sp : Nat → Bool) (held : Bool) (fs : List Field) (off fin : Nat) {α : Type} (R : α → List Value → Prop) : Prop :=
  ∀ (n : Nat) (cs : List Value), cs.length = fin → (∀ f ∈ fs, ∃ y, DataW.trod enc P w base sp held n f.type ((cs.drop f.offset).take (P.cellsOf f.type)) = some y) → ∃ a, R a (cs.drop off)
theorem OpensFs.nil (off : Nat) : OpensFs enc P w base sp held [] off off (fun (_ : Unit) c => c = []) := fun n cs hl _ => ⟨(), List.drop_of_length_le (Nat.le_of_eq hl)⟩
theorem OpensFs.cons {f : Field} {fs : List Field} {off s fin : Nat} {α β : Type} {R0 : α → List Value → DataW H → Prop} {R1 : β → List Value → Prop} (ho : f.offset = off) (hc : P.cellsOf f.type = s) (h : Opens enc P w base sp held f.type R0) (hr : OpensFs enc P w base sp held fs (off + s) fin R1) :
    OpensFs enc P w base sp held (f :: fs) off fin (fun (p : α × β) c => ∃ x y d, c = x ++ y ∧ R0 p.1 x d ∧ R1 p.2 y) := by
  intro n cs hl hf
  obtain ⟨y, hy⟩ := hf f (List.mem_cons_self ..)
  obtain ⟨a, ha⟩ := h _ _ _ hy
  obtain ⟨b, hb⟩ := hr n cs hl (fun g hg => hf g (List.mem_cons_of_mem _ hg))
  refine ⟨(a, b), _, _, _, ?_, ha, hb⟩
  rw [ho, hc, ← List.drop_drop, List.take_append_drop]
theorem opens_struct {t : TypeId} {fs : Array Field} {fin : Nat} {α : Type} {R : α → List Value → Prop} (ht : P.underlying t = some (.struct fs)) (hc : P.cellsOf t = fin) (h : OpensFs enc P w base sp held fs.toList 0 fin R) :
    Opens enc P w base sp held t (fun a c _ => R a c) := by
  intro n cs x hx
  obtain ⟨xs, m, _, _, hl, hlen, hf⟩ := DataW.trod_struct ht hx
  obtain ⟨a, ha⟩ := h m cs (hl.trans hc) (fun f hfm => by
    obtain ⟨i, hi, he⟩ := List.mem_iff_getElem.1 hfm
    have h1 : fs[i]? = some f := by rw [← Array.getElem?_toList, List.getElem?_eq_getElem hi, he]
    have h2 := hf i f h1
    have h3 : i < xs.length := by rw [hlen]; simpa using hi
    exact ⟨xs[i], by rw [h2, List.getElem?_eq_getElem h3]⟩)
  exact ⟨a, by rw [List.drop_zero] at ha; exact ha⟩
end
end Go.PL
namespace Go.PL
open Go Go.RowKit
section
variable {P : Program} {n : Cx} {R : World → Prop} {L : Slots} {Q : Exit → Act → World → Prop}
variable {w0 w : World} {Ln : List Nat} {M : List Ent} {S : List Fact}
theorem Mem.framedS {X M' : List Ent} {w1 : World} {S' : List Fact} (h1 : Mem w0 Ln (X ++ M) S w1) (h2 : Mem w1 (nums M) M' S' w) : Mem w0 Ln (X ++ M') S w := by
  have h := h1.framed h2
  refine ⟨h.os, h.tape, h.output, h.size, h.old, h.own, h.new, h.apart, fun s hs => s.mono _ _ (fun a v hv => ?_) (h1.facts s hs)⟩
  simp only [rdF] at hv ⊢
  split at hv
  · rename_i hc
    have hlt := World.block_lt_of_cell? w1 a hv
    have h3 := hc.2
    rw [inM_append, Bool.or_eq_false_iff] at h3
    have hn : a.block ∉ nums M := fun hm => by
      obtain ⟨e, he, hn⟩ := mem_nums.1 hm
      exact inM_not h3.2 e he hn
    have h4 : inM M' a.block = false := by
      cases hm : inM M' a.block
      · rfl
      · obtain ⟨e, he, hn2⟩ := inM_iff.1 hm
        rcases h2.new e he _ hn2 with h5 | h5
        · omega
        · exact absurd h5 hn
    rw [if_pos ⟨hc.1, by rw [inM_append, h3.1, h4]; rfl⟩, World.cell?_of_block (h2.old a.block hlt hn)]
    exact hv
  · cases hv
theorem t_callS {k : FuncId} {args : Array Operand} {at_ : Array TypeId} {vs : List Value} {ι : Type} {p : ι → Prop} {V : ι → Value} {N : ι → List Ent} (X M1 : List Ent) (Z : ι → List Ent) (hM : M = X ++ M1) (hZ : ∀ x, X ++ N x = Z x) (hb : HasBody P k) (hv : evs L args.toList = some vs)
    (hc : ∀ w, Mem w0 Ln (X ++ M1) S w → Mem w (nums M1) M1 [] w → Calls P k vs.toArray w (GivesA w M1 p V N)) :
    TOpP P Q n (Mem w0 Ln M S) L (.call { callee := .value (.func k), args := args, argTypes := at_ }) ι p V (fun x => Mem w0 Ln (Z x) S) := by
  subst hM
  obtain rfl : (fun x => X ++ N x) = Z := funext hZ
  have h : TOp P Q n (Mem w0 Ln (X ++ M1) S) L (.call { callee := .value (.func k), args := args, argTypes := at_ }) { x : ι // p x } (fun x => V x.1) (fun x => Mem w0 Ln (X ++ N x.1) S) :=
    t_callG (cap := #[]) rfl hb hv fun w hm => by
      simp only [Array.append_empty]
      refine (hc w hm (Mem.startL w (fun e he => hm.own e (List.mem_append_right _ he)) (List.pairwise_append.1 hm.apart).2.1)).mono ?_
      rintro en w' ⟨x, hp, rfl, h2⟩
      exact ⟨⟨x, hp⟩, rfl, hm.framedS h2⟩
  exact h.rep fun x w h => ⟨x.1, x.2, rfl, h⟩
theorem t_callSV {f : Operand} {k : FuncId} {args : Array Operand} {at_ : Array TypeId} {cap : Array Value} {vs : List Value} {ι : Type} {p : ι → Prop} {V : ι → Value} {N : ι → List Ent} (X M1 : List Ent) (Z : ι → List Ent) (hM : M = X ++ M1) (hZ : ∀ x, X ++ N x = Z x) (hf : ev L f = some (.func (.func k) #[] cap)) (hb : HasBody P k) (hv : evs L args.toList = some vs)
    (hc : ∀ w, Mem w0 Ln (X ++ M1) S w → Mem w (nums M1) M1 [] w → Calls P k (vs.toArray ++ cap) w (GivesA w M1 p V N)) :
    TOpP P Q n (Mem w0 Ln M S) L (.call { callee := .value f, args := args, argTypes := at_ }) ι p V (fun x => Mem w0 Ln (Z x) S) := by
  subst hM
  obtain rfl : (fun x => X ++ N x) = Z := funext hZ
  have h : TOp P Q n (Mem w0 Ln (X ++ M1) S) L (.call { callee := .value f, args := args, argTypes := at_ }) { x : ι // p x } (fun x => V x.1) (fun x => Mem w0 Ln (X ++ N x.1) S) :=
    t_callG hf hb hv fun w hm => by
      refine (hc w hm (Mem.startL w (fun e he => hm.own e (List.mem_append_right _ he)) (List.pairwise_append.1 hm.apart).2.1)).mono ?_
      rintro en w' ⟨x, hp, rfl, h2⟩
      exact ⟨⟨x, hp⟩, rfl, hm.framedS h2⟩
  exact h.rep fun x w h => ⟨x.1, x.2, rfl, h⟩
theorem wpc_drawM {id : Nat} {l : List Oper} (M0 : List Ent) (k : Nat) (hm : P.follows .mixedOrders = true) (hM : Sub M0 M)
    (h : WPD P l.toArray Q n k (Mem w0 Ln M0 S) (Mem w0 Ln M S) L l.length (Array.replicate l.length false)) : WPC P Q n (Mem w0 Ln M S) L (.region id l.toArray true) := by
  intro a w hs hr
  refine wp_region_any hm (wpAny_of_I (S := SK k (Mem w0 Ln M0 S)) _ _ _ _ ?_)
  have := h a { w with drawn := w.drawn + 1 } hs hr.drew
  simpa using this
theorem wic_drawM {F : Fence} {id : Nat} {l : List Oper} (M0 : List Ent) (k : Nat) (hm : P.follows .mixedOrders = true) (hM : Sub M0 M)
    (h : WPDI F P l.toArray Q n k (Mem w0 Ln M0 S) (Mem w0 Ln M S) L l.length (Array.replicate l.length false)) : WPCI F P Q n (Mem w0 Ln M S) L (.region id l.toArray true) := by
  intro a w hs hr
  refine wpIn_region_any hm (wpAnyIn_of_J (S := SK k (Mem w0 Ln M0 S)) _ _ _ _ ?_)
  have := h a { w with drawn := w.drawn + 1 } hs hr.drew
  simpa using this
theorem wpc_perm {c : Code} {M' : List Ent} (hp : M.Perm M') (next : WPC P Q n (Mem w0 Ln M' S) L c) : WPC P Q n (Mem w0 Ln M S) L c := fun a w hs h => next a w hs (h.perm hp)
theorem wpl_perm {ops : Array Oper} {rest : List Oper} {M' : List Ent} (hp : M.Perm M') (next : WPL P ops Q n (Mem w0 Ln M' S) L rest) : WPL P ops Q n (Mem w0 Ln M S) L rest := fun a w hs h => next a w hs (h.perm hp)
end
end Go.PL
namespace Go.PL
open Go Go.RowKit
section
inductive Rem {α : Type} : List α → α → List α → Prop where
  | here {x : α} {l : List α} : Rem (x :: l) x l
  | there {x y : α} {l l' : List α} : Rem l x l' → Rem (y :: l) x (y :: l')
theorem Rem.perm {α : Type} {l l' : List α} {x : α} (h : Rem l x l') : l.Perm (x :: l') := by
  induction h with
  | here => exact .refl _
  | there _ ih => exact (ih.cons _).trans (List.Perm.swap _ _ _)
inductive Sel {α : Type} : List α → List α → Prop where
  | nil {l : List α} : Sel [] l
  | cons {x : α} {l l' m : List α} : Rem m x l' → Sel l l' → Sel (x :: l) m
theorem Sel.perm {α : Type} {l m : List α} (h : Sel l m) : ∃ r, m.Perm (l ++ r) := by
  induction h with
  | nil => exact ⟨_, .refl _⟩
  | cons hr _ ih =>
    obtain ⟨r, hp⟩ := ih
    exact ⟨r, hr.perm.trans (hp.cons _)⟩
theorem Sub.app {α : Type} : ∀ (l r : List α), Sub l (l ++ r)
  | [], _ => .nil
  | _ :: l, r => .keep (Sub.app l r)
class RemC {α : Type} (l : List α) (x : α) (l' : outParam (List α)) : Prop where
  h : Rem l x l'
instance (priority := 1200) remC_here {α : Type} {x : α} {l : List α} : RemC (x :: l) x l := ⟨.here⟩
instance (priority := 800) remC_there {α : Type} {x y : α} {l l' : List α} [r : RemC l x l'] : RemC (y :: l) x (y :: l') := ⟨.there r.h⟩
class SelC {α : Type} (l m : List α) : Prop where
  h : Sel l m
instance selC_nil {α : Type} {m : List α} : SelC [] m := ⟨.nil⟩
instance selC_cons {α : Type} {x : α} {l l' m : List α} [r : RemC m x l'] [s : SelC l l'] : SelC (x :: l) m := ⟨.cons r.h s.h⟩
variable {P : Program} {n : Cx} {R : World → Prop} {L : Slots} {Q : Exit → Act → World → Prop}
variable {w0 w : World} {Ln : List Nat} {M M' : List Ent} {S : List Fact}
theorem Mem.selP (h : Mem w0 Ln M S w) (hs : Sel M' M) : Mem w0 Ln M' S w := by
  obtain ⟨r, hp⟩ := hs.perm
  exact (h.perm hp).sub (Sub.app _ _) (Sub.refl _)
theorem Mem.sel (h : Mem w0 Ln M S w) [hs : SelC M' M] : Mem w0 Ln M' S w := h.selP hs.h
theorem Mem.selS {S' : List Fact} (h : Mem w0 Ln M S w) [hs : SelC M' M] [hf : SubC S' S] : Mem w0 Ln M' S' w := (h.selP hs.h).sub (Sub.refl _) hf.h
theorem t_callL {k : FuncId} {args : Array Operand} {at_ : Array TypeId} {vs : List Value} {ι : Type} {p : ι → Prop} {V : ι → Value} {N : ι → List Ent} (M1 X A : List Ent) (Z : ι → List Ent) (hA : M1 ++ X = A) (hM : SelC A M) (hZ : ∀ x, N x ++ X = Z x) (hb : HasBody P k) (hv : evs L args.toList = some vs)
    (hc : ∀ w, Mem w0 Ln M S w → Mem w (nums M1) M1 [] w → Calls P k vs.toArray w (GivesA w M1 p V N)) :
    TOpP P Q n (Mem w0 Ln M S) L (.call { callee := .value (.func k), args := args, argTypes := at_ }) ι p V (fun x => Mem w0 Ln (Z x) S) := by
  subst hA
  obtain rfl : (fun x => N x ++ X) = Z := funext hZ
  have h : TOp P Q n (Mem w0 Ln M S) L (.call { callee := .value (.func k), args := args, argTypes := at_ }) { x : ι // p x } (fun x => V x.1) (fun x => Mem w0 Ln (N x.1 ++ X) S) :=
    t_callG (cap := #[]) rfl hb hv fun w hm0 => by
      have hm := hm0.selP hM.h
      simp only [Array.append_empty]
      refine (hc w hm0 (Mem.startL w (fun e he => hm.own e (List.mem_append_left _ he)) (List.pairwise_append.1 hm.apart).1)).mono ?_
      rintro en w' ⟨x, hp, rfl, h2⟩
      exact ⟨⟨x, hp⟩, rfl, ((hm.perm List.perm_append_comm).framedS h2).perm List.perm_append_comm⟩
  exact h.rep fun x w h => ⟨x.1, x.2, rfl, h⟩
theorem t_callP4 {k : FuncId} {args : Array Operand} {at_ : Array TypeId} {vs : List Value} {ι : Type} {p : ι → Prop} {V : ι → Value} {E F G H : ι → Ent} (hb : HasBody P k) (hv : evs L args.toList = some vs) (hc : ∀ w, Mem w0 Ln M S w → Calls P k vs.toArray w (GivesP w p V (fun x => [E x, F x, G x, H x]) fun _ => [])) : TOpP P Q n (Mem w0 Ln M S) L (.call { callee := .value (.func k), args := args, argTypes := at_ }) ι p V (fun x => Mem w0 Ln (E x :: F x :: G x :: H x :: M) S) := t_callP hb hv hc
theorem cat_len {α : Type} {c : α → List Value} {k : Nat} (hc : ∀ a, (c a).length = k) (l : List α) : ((l.map c).flatten).length = l.length * k := by
  induction l with
  | nil => simp
  | cons a l ih => rw [List.map_cons, List.flatten_cons, List.length_append, ih, hc, List.length_cons, Nat.add_mul, Nat.one_mul, Nat.add_comm]
theorem cat_drop {α : Type} {c : α → List Value} {k : Nat} (hc : ∀ a, (c a).length = k) (z : α) (l : List α) : ∀ i, i < l.length → ((l.map c).flatten).drop (i * k) = c (l.getD i z) ++ ((l.map c).flatten).drop (i * k + k) := by
  induction l with
  | nil => intro i h; simp at h
  | cons a l ih =>
    intro i h
    have d : ∀ j, (c a ++ (l.map c).flatten).drop (k + j) = ((l.map c).flatten).drop j := fun j => by rw [← hc a, ← List.drop_drop, List.drop_left]
    rw [List.map_cons, List.flatten_cons]
    cases i with
    | zero => rw [Nat.zero_mul, Nat.zero_add, List.drop_zero]; show _ = c a ++ _; rw [← Nat.add_zero k, d 0]; rfl
    | succ i =>
      rw [show (i + 1) * k = k + i * k by rw [Nat.add_mul, Nat.one_mul, Nat.add_comm], d, Nat.add_assoc, d, ih i (by simpa using h)]; rfl
theorem cat_part {α : Type} {c : α → List Value} {k : Nat} (hc : ∀ a, (c a).length = k) (z : α) {l : List α} {i : Nat} (h : i < l.length) : (((l.map c).flatten).drop (i * k)).take k = c (l.getD i z) := by
  rw [cat_drop hc z l i h, List.take_append_of_le_length (by rw [hc]; exact Nat.le_refl _), List.take_of_length_le (by rw [hc]; exact Nat.le_refl _)]
theorem cat_get {α : Type} {c : α → List Value} {k : Nat} (hc : ∀ a, (c a).length = k) (z : α) {l : List α} {i j : Nat} {v : Value} (h : i < l.length) (hj : (c (l.getD i z))[j]? = some v) : ((l.map c).flatten)[i * k + j]? = some v := by
  have hlt : j < (c (l.getD i z)).length := by
    rcases Nat.lt_or_ge j (c (l.getD i z)).length with h | h
    · exact h
    · rw [List.getElem?_eq_none h] at hj; cases hj
  rw [← List.getElem?_drop, cat_drop hc z l i h, List.getElem?_append_left hlt]
  exact hj
theorem cat_snoc {α : Type} (c : α → List Value) (l : List α) (a : α) : (l.map c).flatten ++ c a = ((l ++ [a]).map c).flatten := by simp
theorem cat_one {α : Type} {c : α → List Value} (h : ∀ a, ∀ u ∈ c a, u.oneCell' = true) (l : List α) : ∀ u ∈ (l.map c).flatten, u.oneCell' = true := by
  intro u hu
  obtain ⟨x, hx, hu⟩ := List.mem_flatten.1 hu
  obtain ⟨a, _, rfl⟩ := List.mem_map.1 hx
  exact h a u hu
theorem cat_set {α : Type} {c : α → List Value} {k : Nat} (hc : ∀ a, (c a).length = k) (z : α) {l : List α} {i j : Nat} {x : Value} (a' : α) (h : i < l.length) (hj : (c (l.getD i z)).set j x = c a') (hlt : j < k) : ((l.map c).flatten).set (i * k + j) x = ((l.set i a').map c).flatten := by
  induction l generalizing i with
  | nil => exact absurd h zz40
  | cons a l ih =>
    rw [List.map_cons, List.flatten_cons]
    cases i with
    | zero =>
      rw [Nat.zero_mul, Nat.zero_add, List.set_append_left _ _ (by rw [hc]; exact hlt)]
      have : (c a).set j x = c a' := hj
      rw [this]; rfl
    | succ i =>
      rw [List.set_append_right _ _ (by rw [hc, Nat.add_mul]; omega), hc, show (i + 1) * k + j - k = i * k + j by rw [Nat.add_mul]; omega, ih (by simpa using h) hj]
      rfl
theorem cat_put {α : Type} {c : α → List Value} {k : Nat} (hc : ∀ a, (c a).length = k) {l : List α} {i : Nat} (a' : α) (h : i < l.length) : ((l.map c).flatten).take (i * k) ++ c a' ++ ((l.map c).flatten).drop (i * k + (c a').length) = ((l.set i a').map c).flatten := by
  induction l generalizing i with
  | nil => exact absurd h zz40
  | cons a l ih =>
    rw [List.map_cons, List.flatten_cons]
    cases i with
    | zero =>
      rw [Nat.zero_mul, Nat.zero_add, List.take_zero, List.nil_append, hc, ← hc a, List.drop_left]; rfl
    | succ i =>
      have e1 : (i + 1) * k = (c a).length + i * k := by rw [hc, Nat.add_mul]; omega
      rw [e1, List.take_length_add_append, Nat.add_assoc, ← List.drop_drop, List.drop_left, List.append_assoc, List.append_assoc, ← List.append_assoc (List.take _ _), ih (by simpa using h)]
      rfl
theorem cat_take {α : Type} {c : α → List Value} {k : Nat} (hc : ∀ a, (c a).length = k) : ∀ (l : List α) (n : Nat), ((l.map c).flatten).take (n * k) = ((l.take n).map c).flatten
  | [], n => by simp
  | a :: l, 0 => by simp
  | a :: l, n + 1 => by
    rw [List.map_cons, List.flatten_cons, show (n + 1) * k = (c a).length + n * k by rw [hc, Nat.add_mul]; omega, List.take_length_add_append, cat_take hc l n]; rfl
theorem Seen.slC {α : Type} {c : α → List Value} {k : Nat} (hc : ∀ a, (c a).length = k) {r : Rd} {v : Value} {m : Nat} {l : List α} (h : Seen r v m k ((l.map c).flatten)) (hm : m = l.length) {n : Nat} (hn : n ≤ m) : Seen r (Go.PL.slv v 0 n k) (l.take n).length k (((l.take n).map c).flatten) := by
  have h1 := h.slv 0 n (Nat.zero_le _) hn
  rw [Nat.zero_mul, List.drop_zero, Nat.sub_zero, cat_take hc] at h1
  rw [List.length_take, ← hm, Nat.min_eq_left hn]
  exact h1
class OneC (cs : List Value) : Prop where
  h : ∀ u ∈ cs, u.oneCell' = true
instance oneC_nil : OneC [] := ⟨zz40⟩
theorem OneC.cons {v : Value} {l : List Value} (hv : v.oneCell' = true) (h : OneC l) : OneC (v :: l) := ⟨fun u hu => by
  rcases List.mem_cons.1 hu with rfl | hu
  · exact hv
  · exact h.h u hu⟩
instance oneC_int {k : IntKind} {i : Int} {l : List Value} [h : OneC l] : OneC (.int k i :: l) := .cons rfl h
instance oneC_bool {b : Bool} {l : List Value} [h : OneC l] : OneC (.bool b :: l) := .cons rfl h
instance oneC_str {b : ByteArray} {l : List Value} [h : OneC l] : OneC (.string b :: l) := .cons rfl h
instance oneC_sl {a : Option Addr} {m c : Nat} {l : List Value} [h : OneC l] : OneC (.slice a m c :: l) := .cons rfl h
instance oneC_ptr {a : Option Addr} {l : List Value} [h : OneC l] : OneC (.pointer a :: l) := .cons rfl h
instance oneC_u8 {xs : List UInt8} : OneC (v8s xs) := ⟨v8s_one _⟩
instance oneC_u32 {xs : List UInt32} : OneC (v32s xs) := ⟨v32s_one _⟩
instance oneC_u64 {xs : List UInt64} : OneC (v64s xs) := ⟨v64s_one _⟩
instance oneC_ns {xs : List Nat} : OneC (vns xs) := ⟨vns_one _⟩
instance oneC_app {a b : List Value} [h1 : OneC a] [h2 : OneC b] : OneC (a ++ b) := ⟨fun u hu => (List.mem_append.1 hu).elim (h1.h u) (h2.h u)⟩
class LenL {α : Type} (xs : List α) (n : Nat) : Prop where
  h : xs.length = n
instance lenL_rep {α : Type} {n : Nat} {x : α} : LenL (List.replicate n x) n := ⟨List.length_replicate⟩
class LenC (cs : List Value) (n : Nat) : Prop where
  h : cs.length = n
instance lenC_u8 {xs : List UInt8} {n : Nat} [h : LenL xs n] : LenC (v8s xs) n := ⟨(v8s_length xs).trans h.h⟩
instance lenC_nil : LenC [] 0 := ⟨rfl⟩
instance lenC_cons {v : Value} {l : List Value} {n : Nat} [h : LenC l n] : LenC (v :: l) (n + 1) := ⟨congrArg (· + 1) h.h⟩
end
end Go.PL
