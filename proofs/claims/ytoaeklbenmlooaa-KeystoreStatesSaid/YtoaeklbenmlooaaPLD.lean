/- A region whose order is open: what yields a value may be taken first; the condition on memory that the loads need may be forgotten once they are all done. -/
import Derived.Test.YtoaeklbenmlooaaPLB
namespace Go.PL
set_option linter.unusedSimpArgs false
set_option linter.unusedVariables false
open Go
section
variable {P : Program} {ops : Array Oper} {Q : Exit → Act → World → Prop} {md : Region.Mode} {S : Array Bool → World → Prop} {R0 : World → Prop}

/-- Whatever order is picked from here on, and behind each operation S holds of those that are done and of the world. -/
def wpAnyI (P : Program) (md : Region.Mode) (ops : Array Oper) (Q : Exit → Act → World → Prop) (S : Array Bool → World → Prop) : Nat → Array Bool → Act → World → Prop
  | 0, listed, a, w => Region.ready md ops listed = [] ∧ Q .normal a w
  | fuel + 1, listed, a, w =>
    (Region.ready md ops listed = [] → Q .normal a w) ∧
    ∀ i ∈ Region.ready md ops listed, wpOp P ops Q i (fun a' w' => S (listed.setIfInBounds i true) w' ∧ wpAnyI P md ops Q S fuel (listed.setIfInBounds i true) a' w') a w

theorem wpAny_of_I : ∀ (fuel : Nat) (listed : Array Bool) (a : Act) (w : World), wpAnyI P md ops Q S fuel listed a w → wpAny P md ops Q fuel listed a w
  | 0, _, _, _, h => h
  | fuel + 1, _, _, _, h => ⟨h.1, fun i hi => wpOp_mono (fun a' w' h' => wpAny_of_I fuel _ a' w' h'.2) (h.2 i hi)⟩

theorem wpAnyI_mono {S S' : Array Bool → World → Prop} (hS : ∀ l w, S l w → S' l w) : ∀ (fuel : Nat) (listed : Array Bool) (a : Act) (w : World), wpAnyI P md ops Q S fuel listed a w → wpAnyI P md ops Q S' fuel listed a w
  | 0, _, _, _, h => h
  | fuel + 1, _, _, _, h => ⟨h.1, fun i hi => wpOp_mono (fun a' w' h' => ⟨hS _ _ h'.1, wpAnyI_mono hS fuel _ a' w' h'.2⟩) (h.2 i hi)⟩

/-- The condition: operation k (the first store) is done, or R0. -/
def SK (k : Nat) (R0 : World → Prop) (listed : Array Bool) (w : World) : Prop := listed.getD k false = true ∨ R0 w

theorem getD_set_ne' {l : Array Bool} {i k : Nat} (h : i ≠ k) : (l.setIfInBounds i true).getD k false = l.getD k false := getD_set_ne false h

/-- Operation i, which yields v where R0 holds, may be taken first, if the first store waits for it. -/
theorem wpAnyI_first {i k : Nat} {oi : Oper} {v : Value} (hi : ops[i]? = some oi) (hik : i ≠ k) (hsel : ∀ (j : Nat) (o : Oper) cs b, ops[j]? = some o → o.op ≠ .select cs b)
    (hdep : ∀ ok, ops[k]? = some ok → ∃ e ∈ ok.after, Region.binds md e = true ∧ e.on = i)
    (hQ : ∀ c a w, Q (.panic c) (a.put oi.dst v) w → Q (.panic c) a w) :
    ∀ (fuel : Nat) (listed : Array Bool) (a : Act) (w : World),
      (∀ j oj, ops[j]? = some oj → j ≠ i → listed.getD j true = false → (∀ e ∈ oj.after, Region.binds md e = true → e.on ≠ i) → oi.apart ops oj = true) →
      i ∈ Region.ready md ops listed → listed.getD k false = false → YieldsIf P ops R0 oi v a → SK k R0 listed w →
      wpAnyI P md ops Q (SK k R0) fuel (listed.setIfInBounds i true) (a.put oi.dst v) w → wpAnyI P md ops Q (SK k R0) (fuel + 1) listed a w := by
  intro fuel
  induction fuel with
  | zero =>
    intro listed a w _ hr hk hy hS H
    have hR : R0 w := hS.resolve_left (by simp [hk])
    refine ⟨fun h => (by rw [h] at hr; cases hr), fun j hj => ?_⟩
    by_cases hji : j = i
    · subst hji; exact hy.wpOp hi hR ⟨.inr hR, H⟩
    · have := ready_mono hj hji
      rw [H.1] at this
      cases this
  | succ fuel ih =>
    intro listed a w hfree hr hk hy hS H
    have hR : R0 w := hS.resolve_left (by simp [hk])
    refine ⟨fun h => (by rw [h] at hr; cases hr), fun j hj => ?_⟩
    by_cases hji : j = i
    · subst hji; exact hy.wpOp hi hR ⟨.inr hR, H⟩
    · have h1 := H.2 j (ready_mono hj hji)
      obtain ⟨hjun, oj, hoj, hall⟩ := mem_ready.1 hj
      have hnot : ∀ e ∈ oj.after, Region.binds md e = true → e.on ≠ i := fun e he hb heq => by
        have h1 := hall e he hb
        have h0 := (mem_ready.1 hr).1
        rw [heq] at h1
        rcases Nat.lt_or_ge i listed.size with h' | h'
        · simp [h'] at h0 h1; rw [h0] at h1; cases h1
        · simp [Array.getElem?_eq_none h'] at h1
      have hjk : j ≠ k := fun e => by
        subst e
        obtain ⟨e, he, hb, heq⟩ := hdep oj hoj
        exact hnot e he hb heq
      have h2 := wpOp_putIf hoj (hfree j oj hoj hji hjun hnot) (fun cs b => hsel i oi cs b hi) (fun cs b => hsel j oj cs b hoj) hQ hy h1
      have hfree' : ∀ m om, ops[m]? = some om → m ≠ i → (listed.setIfInBounds j true).getD m true = false →
          (∀ e ∈ om.after, Region.binds md e = true → e.on ≠ i) → oi.apart ops om = true := fun m om hm hmi hun hno => by
        refine hfree m om hm hmi ?_ hno
        by_cases hjm : j = m
        · subst hjm; exact hjun
        · rw [getD_set_ne true hjm] at hun; exact hun
      refine wpOp_mono (fun a' w' h3 => ?_) h2
      have hS' : SK k R0 (listed.setIfInBounds j true) w' := by
        rcases h3.2.1 with h | h
        · refine .inl ?_
          rw [getD_set_ne' hjk, getD_set_ne' hik] at h
          rw [getD_set_ne' hjk]; exact h
        · exact .inr h
      refine ⟨hS', ih (listed.setIfInBounds j true) a' w' hfree' (ready_mono hr (Ne.symm hji)) (by rw [getD_set_ne' hjk]; exact hk) h3.1 hS' ?_⟩
      rw [Array.setIfInBounds_comm _ _ hji]
      exact h3.2.2

/-- Operation i, which yields v in whatever world, may be taken first. -/
theorem wpAnyI_first' {i k : Nat} {oi : Oper} {v : Value} (hi : ops[i]? = some oi) (hik : i ≠ k) (hsel : ∀ (j : Nat) (o : Oper) cs b, ops[j]? = some o → o.op ≠ .select cs b)
    (hQ : ∀ c a w, Q (.panic c) (a.put oi.dst v) w → Q (.panic c) a w) :
    ∀ (fuel : Nat) (listed : Array Bool) (a : Act) (w : World),
      (∀ j oj, ops[j]? = some oj → j ≠ i → listed.getD j true = false → (∀ e ∈ oj.after, Region.binds md e = true → e.on ≠ i) → oi.apart ops oj = true) →
      i ∈ Region.ready md ops listed → YieldsIf P ops (fun _ => True) oi v a → SK k R0 listed w →
      wpAnyI P md ops Q (SK k R0) fuel (listed.setIfInBounds i true) (a.put oi.dst v) w → wpAnyI P md ops Q (SK k R0) (fuel + 1) listed a w := by
  intro fuel
  have hup : ∀ (l : Array Bool) w, SK k R0 l w → SK k R0 (l.setIfInBounds i true) w := fun l w h => h.imp (fun h => by rw [getD_set_ne' hik]; exact h) id
  induction fuel with
  | zero =>
    intro listed a w _ hr hy hS H
    refine ⟨fun h => (by rw [h] at hr; cases hr), fun j hj => ?_⟩
    by_cases hji : j = i
    · subst hji; exact hy.wpOp hi trivial ⟨hup _ _ hS, H⟩
    · have := ready_mono hj hji
      rw [H.1] at this
      cases this
  | succ fuel ih =>
    intro listed a w hfree hr hy hS H
    refine ⟨fun h => (by rw [h] at hr; cases hr), fun j hj => ?_⟩
    by_cases hji : j = i
    · subst hji; exact hy.wpOp hi trivial ⟨hup _ _ hS, H⟩
    · have h1 := H.2 j (ready_mono hj hji)
      obtain ⟨hjun, oj, hoj, hall⟩ := mem_ready.1 hj
      have hnot : ∀ e ∈ oj.after, Region.binds md e = true → e.on ≠ i := fun e he hb heq => by
        have h1 := hall e he hb
        have h0 := (mem_ready.1 hr).1
        rw [heq] at h1
        rcases Nat.lt_or_ge i listed.size with h' | h'
        · simp [h'] at h0 h1; rw [h0] at h1; cases h1
        · simp [Array.getElem?_eq_none h'] at h1
      have h2 := wpOp_putIf hoj (hfree j oj hoj hji hjun hnot) (fun cs b => hsel i oi cs b hi) (fun cs b => hsel j oj cs b hoj) hQ hy h1
      have hfree' : ∀ m om, ops[m]? = some om → m ≠ i → (listed.setIfInBounds j true).getD m true = false →
          (∀ e ∈ om.after, Region.binds md e = true → e.on ≠ i) → oi.apart ops om = true := fun m om hm hmi hun hno => by
        refine hfree m om hm hmi ?_ hno
        by_cases hjm : j = m
        · subst hjm; exact hjun
        · rw [getD_set_ne true hjm] at hun; exact hun
      refine wpOp_mono (fun a' w' h3 => ?_) h2
      have hS' : SK k R0 (listed.setIfInBounds j true) w' := by
        rcases h3.2.1 with h | h
        · refine .inl ?_
          by_cases hjk : j = k
          · subst hjk
            rw [Array.setIfInBounds_comm _ _ (Ne.symm hji), getD_set_ne' hik] at h
            exact h
          · rw [getD_set_ne' hjk, getD_set_ne' hik] at h
            rw [getD_set_ne' hjk]; exact h
        · exact .inr h
      refine ⟨hS', ih (listed.setIfInBounds j true) a' w' hfree' (ready_mono hr (Ne.symm hji)) h3.1 hS' ?_⟩
      rw [Array.setIfInBounds_comm _ _ hji]
      exact h3.2.2

/-! ### The rules -/
variable {n : Cx} {R : World → Prop} {L : Slots} {k fuel : Nat} {listed : Array Bool}

def WPD (P : Program) (ops : Array Oper) (Q : Exit → Act → World → Prop) (n : Cx) (k : Nat) (R0 R : World → Prop) (L : Slots) (fuel : Nat) (listed : Array Bool) : Prop :=
  ∀ a w, Sl n a L → R w → wpAnyI P .any ops Q (SK k R0) fuel listed a w

/-- No panic of the region's own is let out: so it doesn't matter what the temporaries hold then. -/
class NoP (Q : Exit → Act → World → Prop) : Prop where
  out : ∀ c a a' w, Q (.panic c) a w → Q (.panic c) a' w

def noSel (ops : Array Oper) : Bool := Region.noSelect ops

theorem wpc_draw {id : Nat} {l : List Oper} (k : Nat) (hm : P.follows .mixedOrders = true) (hdr : ∀ w : World, R w → R { w with drawn := w.drawn + 1 })
    (h : WPD P l.toArray Q n k R R L l.length (Array.replicate l.length false)) : WPC P Q n R L (.region id l.toArray true) := by
  intro a w hs hr
  refine wp_region_any hm (wpAny_of_I (S := SK k R) _ _ _ _ ?_)
  have := h a { w with drawn := w.drawn + 1 } hs (hdr w hr)
  simpa using this

/-- k waits for i. -/
def waits (ops : Array Oper) (k i : Nat) : Bool := match ops[k]? with
  | none => true
  | some ok => ok.after.any fun e => Region.binds .any e && Nat.beq e.on i

theorem waits_spec {k i : Nat} (h : waits ops k i = true) : ∀ ok, ops[k]? = some ok → ∃ e ∈ ok.after, Region.binds .any e = true ∧ e.on = i := by
  intro ok hok
  simp only [waits, hok] at h
  obtain ⟨e, he, hb⟩ := Array.any_eq_true'.1 h
  simp only [Bool.and_eq_true] at hb
  exact ⟨e, he, hb.1, Nat.eq_of_beq_eq_true hb.2⟩

theorem get_list {l : List Oper} {i : Nat} {o : Oper} (h : l[i]? = some o) : l.toArray[i]? = some o := by simpa using h

variable {op : Op} {v : Value} {d : Nat} {ty : TypeId} {pos : String} {af : Array Edge} {g : Option (Nat × Bool)}

/-- Is the operation carried out? -/
def Wants (ops : Array Oper) (L : Slots) : Option (Nat × Bool) → Prop
  | none => True
  | some (j, b) => ∃ t, (ops[j]?).bind (·.dst) = some t ∧ get L t = some (.bool b)
def WantsNot (ops : Array Oper) (L : Slots) : Option (Nat × Bool) → Prop
  | none => False
  | some (j, b) => ∃ t v, (ops[j]?).bind (·.dst) = some t ∧ get L t = some v ∧ offV v b = true

theorem Wants.spec {a : Act} {d : Option Tmp} (h : Wants ops L g) (hs : Sl n a L) : Region.wanted ⟨d, op, ty, pos, af, g⟩ (yielded ops a.tmps) = true := by
  cases g with
  | none => rfl
  | some g =>
    obtain ⟨j, b⟩ := g
    obtain ⟨t, hj, hv⟩ := h
    simp [Region.wanted, yielded_of (ops := ops) hs hj hv]
theorem WantsNot.spec {a : Act} {d : Option Tmp} (h : WantsNot ops L g) (hs : Sl n a L) : Region.wanted ⟨d, op, ty, pos, af, g⟩ (yielded ops a.tmps) = false := by
  cases g with
  | none => exact h.elim
  | some g =>
    obtain ⟨j, b⟩ := g
    obtain ⟨t, c, hj, hv, hc⟩ := h
    simp only [Region.wanted, yielded_off (ops := ops) hs hj hv hc]

def chk (ops : Array Oper) (listed : Array Bool) (i : Nat) : Bool := Region.noSelect ops && Region.free .any ops listed i && (Region.ready .any ops listed).contains i

theorem chk_spec {i : Nat} (h : chk ops listed i = true) : Region.noSelect ops = true ∧ Region.free .any ops listed i = true ∧ i ∈ Region.ready .any ops listed := by
  simp only [chk, Bool.and_eq_true] at h
  exact ⟨h.1.1, h.1.2, by simpa using h.2⟩

/-- Take i first: a load. -/
theorem wpd_q (i : Nat) (hi : ops[i]? = some ⟨some d, op, ty, pos, af, g⟩) (hc : (chk ops listed i && waits ops k i && !Nat.beq i k && !listed.getD k false) = true) (hg : Wants ops L g)
    (hop : QOp P n R0 L op v) (hd : Nat.blt d n.n = true) [hP : NoP Q] (hR : ∀ w, R w → R0 w)
    (next : WPD P ops Q n k R0 R ((d, v) :: L) fuel (listed.setIfInBounds i true)) : WPD P ops Q n k R0 R L (fuel + 1) listed := by
  intro a w hs hr
  simp only [Bool.and_eq_true, Bool.not_eq_true'] at hc
  obtain ⟨⟨⟨hc, hw⟩, hik⟩, hk⟩ := hc
  obtain ⟨hsel, hf, hrd⟩ := chk_spec hc
  have hik' : i ≠ k := fun e => by subst e; simp [Nat.beq_refl] at hik
  exact wpAnyI_first (R0 := R0) hi hik' (Region.noSelect_spec hsel) (waits_spec hw) (fun c a w h => hP.out _ _ _ _ h) fuel listed a w (Region.free_spec hi hf) hrd hk
    (.inl ⟨hg.spec hs, fun w' h' => hop _ _ _ _ _ a w' hs h'⟩) (.inr (hR w hr)) (next _ _ (hs.put hd v) hr)

/-- Take i first: an operation without memory. -/
theorem wpd_p (i : Nat) (hi : ops[i]? = some ⟨some d, op, ty, pos, af, g⟩) (hc : (chk ops listed i && !Nat.beq i k) = true) (hg : Wants ops L g)
    (hop : QOp P n (fun _ => True) L op v) (hd : Nat.blt d n.n = true) [hP : NoP Q] (hR : ∀ w, R w → SK k R0 listed w)
    (next : WPD P ops Q n k R0 R ((d, v) :: L) fuel (listed.setIfInBounds i true)) : WPD P ops Q n k R0 R L (fuel + 1) listed := by
  intro a w hs hr
  simp only [Bool.and_eq_true, Bool.not_eq_true'] at hc
  obtain ⟨hc, hik⟩ := hc
  obtain ⟨hsel, hf, hrd⟩ := chk_spec hc
  have hik' : i ≠ k := fun e => by subst e; simp [Nat.beq_refl] at hik
  exact wpAnyI_first' (R0 := R0) hi hik' (Region.noSelect_spec hsel) (fun c a w h => hP.out _ _ _ _ h) fuel listed a w (Region.free_spec hi hf) hrd
    (.inl ⟨hg.spec hs, fun w' h' => hop _ _ _ _ _ a w' hs h'⟩) (hR w hr) (next _ _ (hs.put hd v) hr)

/-- Take i first: an operation that is passed over. -/
theorem wpd_off (i : Nat) (hi : ops[i]? = some ⟨some d, op, ty, pos, af, g⟩) (hc : (chk ops listed i && !Nat.beq i k) = true) (hg : WantsNot ops L g)
    (hd : Nat.blt d n.n = true) [hP : NoP Q] (hR : ∀ w, R w → SK k R0 listed w)
    (next : WPD P ops Q n k R0 R ((d, undef) :: L) fuel (listed.setIfInBounds i true)) : WPD P ops Q n k R0 R L (fuel + 1) listed := by
  intro a w hs hr
  simp only [Bool.and_eq_true, Bool.not_eq_true'] at hc
  obtain ⟨hc, hik⟩ := hc
  obtain ⟨hsel, hf, hrd⟩ := chk_spec hc
  have hik' : i ≠ k := fun e => by subst e; simp [Nat.beq_refl] at hik
  exact wpAnyI_first' (R0 := R0) hi hik' (Region.noSelect_spec hsel) (fun c a w h => hP.out _ _ _ _ h) fuel listed a w (Region.free_spec hi hf) hrd
    (.inr ⟨hg.spec hs, rfl⟩) (hR w hr) (next _ _ (hs.put hd undef) hr)

theorem wpAnyI_one {i : Nat} {fuel : Nat} {listed : Array Bool} {a : Act} {w : World} {S : Array Bool → World → Prop} (hr : Region.ready .any ops listed = [i])
    (h : wpOp P ops Q i (fun a' w' => S (listed.setIfInBounds i true) w' ∧ wpAnyI P .any ops Q S fuel (listed.setIfInBounds i true) a' w') a w) : wpAnyI P .any ops Q S (fuel + 1) listed a w :=
  ⟨fun h0 => absurd (hr.symm.trans h0) (by simp), fun j hj => by rw [hr] at hj; simp at hj; subst hj; exact h⟩

/-- The only one that may come up: an operation that acts. -/
theorem wpd_t {ι : Type} {V : ι → Value} {R' : ι → World → Prop} (i : Nat) (hi : ops[i]? = some ⟨some d, op, ty, pos, af, g⟩) (hr : Region.ready .any ops listed = [i]) (hg : Wants ops L g)
    (hop : TOp P Q n R L op ι V R') (hd : Nat.blt d n.n = true) (hS : ∀ x w, R' x w → SK k R0 (listed.setIfInBounds i true) w)
    (next : ∀ x, WPD P ops Q n k R0 (R' x) ((d, V x) :: L) fuel (listed.setIfInBounds i true)) : WPD P ops Q n k R0 R L (fuel + 1) listed := by
  intro a w hs hw
  refine wpAnyI_one hr ?_
  unfold wpOp
  simp only [hi, hg.spec hs, if_true]
  exact .inl (hop _ _ _ _ _ a w _ hs hw fun x w' h' => ⟨hS x w' h', next x _ _ (hs.put hd (V x)) h'⟩)

theorem wpd_t0 {ι : Type} {V : ι → Value} {R' : ι → World → Prop} (i : Nat) (hi : ops[i]? = some ⟨none, op, ty, pos, af, g⟩) (hr : Region.ready .any ops listed = [i]) (hg : Wants ops L g)
    (hop : TOp P Q n R L op ι V R') (hS : ∀ x w, R' x w → SK k R0 (listed.setIfInBounds i true) w)
    (next : ∀ x, WPD P ops Q n k R0 (R' x) L fuel (listed.setIfInBounds i true)) : WPD P ops Q n k R0 R L (fuel + 1) listed := by
  intro a w hs hw
  refine wpAnyI_one hr ?_
  unfold wpOp
  simp only [hi, hg.spec hs, if_true]
  exact .inl (hop _ _ _ _ _ a w _ hs hw fun x w' h' => ⟨hS x w' h', next x _ _ hs h'⟩)

theorem wpd_done (hr : Region.ready .any ops listed = []) (h : EX Q .normal n R L) : WPD P ops Q n k R0 R L fuel listed := by
  intro a w hs hw
  cases fuel with
  | zero => exact ⟨hr, h a w hs hw⟩
  | succ f => exact ⟨fun _ => h a w hs hw, fun i hi => by rw [hr] at hi; cases hi⟩

instance nop_then {K : Act → World → Prop} [h : NoP Q] : NoP (Exit.then K Q) := ⟨fun c a a' w hq => h.out c a a' w hq⟩
instance nop_block {id : Nat} [h : NoP Q] : NoP (Exit.inBlock id Q) := ⟨fun c a a' w hq => h.out c a a' w hq⟩
theorem nop_post {fn : Func} {post : Ending → World → Prop} (h : ∀ c w, ¬ post (.panicked c) w) : NoP (bodyPost P fn post) := ⟨fun c _ _ w hq => absurd hq.2 (h c w)⟩
theorem sk0 {R : World → Prop} : ∀ w, R w → SK k R listed w := fun _ h => .inr h
theorem skk {R R1 : World → Prop} (h : listed.getD k false = true) : ∀ w, R1 w → SK k R listed w := fun _ _ => .inl h
end
end Go.PL
