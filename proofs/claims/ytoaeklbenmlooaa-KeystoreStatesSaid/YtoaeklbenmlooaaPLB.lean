/- The rules of the logic: one operation after the other, a region in an open order, sequences, branches, blocks, loops, entry and return. -/
import Derived.Test.YtoaeklbenmlooaaPLA
namespace Go.PL
set_option linter.unusedSimpArgs false
set_option linter.unusedVariables false
open Go
section
variable {P : Program} {Q : Exit → Act → World → Prop} {n : Cx} {R : World → Prop} {L : Slots}

/-- The rest of a region in the text's order. -/
def WPL (P : Program) (ops : Array Oper) (Q : Exit → Act → World → Prop) (n : Cx) (R : World → Prop) (L : Slots) (rest : List Oper) : Prop :=
  ∀ a w, Sl n a L → R w → wpList P ops Q rest a w
/-- Code. -/
def WPC (P : Program) (Q : Exit → Act → World → Prop) (n : Cx) (R : World → Prop) (L : Slots) (c : Code) : Prop :=
  ∀ a w, Sl n a L → R w → c.wp P Q a w
/-- A way out. -/
def EX (Q : Exit → Act → World → Prop) (e : Exit) (n : Cx) (R : World → Prop) (L : Slots) : Prop :=
  ∀ a w, Sl n a L → R w → Q e a w

/-- An operation that may act: behind it the temporary holds 'V x' and the world is 'R' x', for some x. -/
def TOp (P : Program) (Q : Exit → Act → World → Prop) (n : Cx) (R : World → Prop) (L : Slots) (op : Op) (ι : Type) (V : ι → Value) (R' : ι → World → Prop) : Prop :=
  ∀ (d : Option Tmp) (ty : TypeId) (pos : String) (af : Array Edge) (g : Option (Nat × Bool)) (a : Act) (w : World) (K : Act → World → Prop), Sl n a L → R w →
    (∀ x w', R' x w' → K (a.put d (V x)) w') → (Oper.wp P ⟨d, op, ty, pos, af, g⟩ a w K Q)

theorem QOp.mono {R1 : World → Prop} {op : Op} {v : Value} (h : QOp P n R L op v) (hr : ∀ w, R1 w → R w) : QOp P n R1 L op v :=
  fun d ty pos af g a w hs h1 => h d ty pos af g a w hs (hr w h1)

theorem QOp.top {op : Op} {v : Value} (h : QOp P n R L op v) : TOp P Q n R L op Unit (fun _ => v) (fun _ => R) := by
  intro d ty pos af g a w K hs hr hk
  unfold Oper.wp
  rw [h d ty pos af g a w hs hr]
  exact hk () w hr

variable {ops : Array Oper} {rest : List Oper} {op : Op} {v : Value} {d : Nat} {ty : TypeId} {pos : String} {af : Array Edge}

theorem wpl_q (hop : QOp P n R L op v) (hd : Nat.blt d n.n = true) (next : WPL P ops Q n R ((d, v) :: L) rest) :
    WPL P ops Q n R L (⟨some d, op, ty, pos, af, none⟩ :: rest) := by
  intro a w hs hr
  refine wpList_plain rfl fun K hK => ?_
  unfold Oper.wp
  rw [hop _ _ _ _ _ a w hs hr]
  exact hK _ _ (next _ _ (hs.put hd v) hr)

theorem wpl_q0 (hop : QOp P n R L op v) (next : WPL P ops Q n R L rest) : WPL P ops Q n R L (⟨none, op, ty, pos, af, none⟩ :: rest) := by
  intro a w hs hr
  refine wpList_plain rfl fun K hK => ?_
  unfold Oper.wp
  rw [hop _ _ _ _ _ a w hs hr]
  exact hK _ _ (next _ _ hs hr)

theorem wpl_t {ι : Type} {V : ι → Value} {R' : ι → World → Prop} (hop : TOp P Q n R L op ι V R') (hd : Nat.blt d n.n = true) (next : ∀ x, WPL P ops Q n (R' x) ((d, V x) :: L) rest) :
    WPL P ops Q n R L (⟨some d, op, ty, pos, af, none⟩ :: rest) := by
  intro a w hs hr
  refine wpList_plain rfl fun K hK => hop _ _ _ _ _ a w K hs hr fun x w' h' => hK _ _ (next x _ _ (hs.put hd (V x)) h')

theorem wpl_t0 {ι : Type} {V : ι → Value} {R' : ι → World → Prop} (hop : TOp P Q n R L op ι V R') (next : ∀ x, WPL P ops Q n (R' x) L rest) :
    WPL P ops Q n R L (⟨none, op, ty, pos, af, none⟩ :: rest) := by
  intro a w hs hr
  refine wpList_plain rfl fun K hK => hop _ _ _ _ _ a w K hs hr fun x w' h' => hK _ _ (next x _ _ hs h')

theorem yielded_of {a : Act} (hs : Sl n a L) {j t : Nat} {b : Bool} (hj : (ops[j]?).bind (·.dst) = some t) (hv : get L t = some (.bool b)) : yielded ops a.tmps j = some b := by
  simp [yielded, hj, hs.tmp t _ hv]

theorem wpl_on {d : Option Tmp} {j t : Nat} {b : Bool} (hj : (ops[j]?).bind (·.dst) = some t) (hv : get L t = some (.bool b)) (next : WPL P ops Q n R L (⟨d, op, ty, pos, af, none⟩ :: rest)) :
    WPL P ops Q n R L (⟨d, op, ty, pos, af, some (j, b)⟩ :: rest) := by
  intro a w hs hr
  have h := next a w hs hr
  have hy := yielded_of (ops := ops) hs hj hv
  unfold wpList at h ⊢
  simp only [Region.wanted, if_true] at h
  simp only [Region.wanted, hy, beq_self_eq_true, if_true]
  exact h

/-- A value at which an operation with this guard is passed over. -/
def offV : Value → Bool → Bool
  | .bool c, b => !(c == b)
  | _, _ => true
theorem yielded_off {a : Act} (hs : Sl n a L) {j t : Nat} {b : Bool} {v : Value} (hj : (ops[j]?).bind (·.dst) = some t) (hv : get L t = some v) (ho : offV v b = true) : (yielded ops a.tmps j == some b) = false := by
  have ht := hs.tmp t _ hv
  simp only [yielded, hj]
  cases v <;> simp_all [offV]
theorem wpl_off {j t : Nat} {b : Bool} {v : Value} (hj : (ops[j]?).bind (·.dst) = some t) (hv : get L t = some v) (hbc : offV v b = true) (hd : Nat.blt d n.n = true) (next : WPL P ops Q n R ((d, undef) :: L) rest) :
    WPL P ops Q n R L (⟨some d, op, ty, pos, af, some (j, b)⟩ :: rest) := by
  intro a w hs hr
  have hy := yielded_off (ops := ops) hs hj hv hbc
  unfold wpList
  simp only [Region.wanted, hy, Bool.false_eq_true, if_false]
  exact next _ _ (hs.put hd undef) hr

theorem wpl_weaken {R1 : World → Prop} {L1 : Slots} (hl : subs L L1) (hr : ∀ w, R w → R1 w) (next : WPL P ops Q n R1 L1 rest) : WPL P ops Q n R L rest :=
  fun a w hs h => next a w (hs.weaken (subs_get hl)) (hr w h)

theorem wpl_nil (h : EX Q .normal n R L) : WPL P ops Q n R L [] := fun a w hs hr => wpList_nil (h a w hs hr)

/-! ### Code -/
theorem wpc_region {id : Nat} {l : List Oper} (h : WPL P l.toArray Q n R L l) : WPC P Q n R L (.region id l.toArray false) :=
  fun a w hs hr => wp_region_lit (h a w hs hr)
theorem wpc_seq {x y : Code} (h : WPC P (Exit.then (fun a w => y.wp P Q a w) Q) n R L x) : WPC P Q n R L (.seq x y) :=
  fun a w hs hr => wp_seq (h a w hs hr)
theorem wpc_cond {c : Operand} {x y : Code} {b : Bool} (hb : ev L c = some (.bool b)) (ht : b = true → WPC P Q n R L x) (hf : b = false → WPC P Q n R L y) : WPC P Q n R L (.cond c x y) :=
  fun a w hs hr => wp_cond_split (hs.eval hb) (fun h => ht h a w hs hr) (fun h => hf h a w hs hr)
theorem wpc_cond_t {c : Operand} {x y : Code} (hb : ev L c = some (.bool true)) (ht : WPC P Q n R L x) : WPC P Q n R L (.cond c x y) :=
  fun a w hs hr => wp_cond_true (hs.eval hb) (ht a w hs hr)
theorem wpc_cond_f {c : Operand} {x y : Code} (hb : ev L c = some (.bool false)) (hf : WPC P Q n R L y) : WPC P Q n R L (.cond c x y) :=
  fun a w hs hr => wp_cond_false (hs.eval hb) (hf a w hs hr)
theorem wpc_block {id : Nat} {c : Code} (h : WPC P (Exit.inBlock id Q) n R L c) : WPC P Q n R L (.block id c) :=
  fun a w hs hr => wp_block (h a w hs hr)
theorem wpc_skip (h : EX Q .normal n R L) : WPC P Q n R L .skip := fun a w hs hr => wp_skip (h a w hs hr)
theorem wpc_exit {id : Nat} (h : EX Q (.exit id) n R L) : WPC P Q n R L (.exit id) := fun a w hs hr => wp_exit (h a w hs hr)
theorem wpc_ret (h : EX Q .ret n R L) : WPC P Q n R L .ret := fun a w hs hr => wp_ret (h a w hs hr)
theorem wpc_weaken {c : Code} {R1 : World → Prop} {L1 : Slots} (hl : subs L L1) (hr : ∀ w, R w → R1 w) (next : WPC P Q n R1 L1 c) : WPC P Q n R L c :=
  fun a w hs h => next a w (hs.weaken (subs_get hl)) (hr w h)

theorem ex_then {y : Code} (h : WPC P Q n R L y) : EX (Exit.then (fun a w => y.wp P Q a w) Q) .normal n R L := h
theorem ex_then_exit {K : Act → World → Prop} {id : Nat} (h : EX Q (.exit id) n R L) : EX (Exit.then K Q) (.exit id) n R L := h
theorem ex_then_ret {K : Act → World → Prop} (h : EX Q .ret n R L) : EX (Exit.then K Q) .ret n R L := h
theorem ex_block {id : Nat} (h : EX Q .normal n R L) : EX (Exit.inBlock id Q) .normal n R L := h
theorem ex_block_ret {id : Nat} (h : EX Q .ret n R L) : EX (Exit.inBlock id Q) .ret n R L := h
theorem ex_block_hit {id : Nat} (h : EX Q .normal n R L) : EX (Exit.inBlock id Q) (.exit id) n R L := fun a w hs hr => by
  simp only [Exit.inBlock, if_true]; exact h a w hs hr
theorem ex_block_miss {id id' : Nat} (hne : Nat.beq id' id = false) (h : EX Q (.exit id') n R L) : EX (Exit.inBlock id Q) (.exit id') n R L := fun a w hs hr => by
  have : ¬ id' = id := fun e => by subst e; simp [Nat.beq_refl] at hne
  simp only [Exit.inBlock, this, if_false]; exact h a w hs hr
theorem ex_weaken {e : Exit} {R1 : World → Prop} {L1 : Slots} (hl : subs L L1) (hr : ∀ w, R w → R1 w) (next : EX Q e n R1 L1) : EX Q e n R L :=
  fun a w hs h => next a w (hs.weaken (subs_get hl)) (hr w h)

/-- The head of a loop again: with another x, whose measure is less. -/
def Again (n : Cx) {ι : Type} (Li : ι → Slots) (Ri : ι → World → Prop) (μ : ι → Nat) (x : ι) (a : Act) (w : World) : Prop := ∃ y, Sl n a (Li y) ∧ Ri y w ∧ μ y < μ x

theorem wpc_loop {c : Code} {ι : Type} (Li : ι → Slots) (Ri : ι → World → Prop) (μ : ι → Nat) (x0 : ι) (h0 : subs L (Li x0)) (hR : ∀ w, R w → Ri x0 w)
    (round : ∀ x, WPC P (Exit.then (Again n Li Ri μ x) Q) n (Ri x) (Li x) c) : WPC P Q n R L (.loop c) := by
  intro a w hs hr
  have key : ∀ m x a w, μ x = m → Sl n a (Li x) → Ri x w → ∀ (b : Frame) (k : List Item) (cs : List Frame),
      ∃ e a' w', Q e a' w' ∧ Arrives P (lone (b.at a (.code c :: .inLoop c :: k)) cs w) b k cs e a' w' := by
    intro m
    induction m using Nat.strongRecOn with
    | _ m ih =>
      intro x a w hm hs hr b k cs
      obtain ⟨e, a₁, w₁, hq, harr⟩ := round x a w hs hr b (.inLoop c :: k) cs
      cases e with
      | normal =>
        obtain ⟨y, hs1, hr1, hlt⟩ := hq
        obtain ⟨e₂, a₂, w₂, hq₂, harr₂⟩ := ih (μ y) (hm ▸ hlt) y a₁ w₁ rfl hs1 hr1 b k cs
        exact ⟨e₂, a₂, w₂, hq₂, .of_steps (Steps.trans harr (.one step_inLoop)) harr₂⟩
      | exit id => exact ⟨_, a₁, w₁, hq, .pass (x := .inLoop c) rfl (fun _ _ => .inl (by simp)) harr⟩
      | goto l => exact ⟨_, a₁, w₁, hq, .pass (x := .inLoop c) rfl (fun _ _ => .inl (by simp)) harr⟩
      | ret => exact ⟨_, a₁, w₁, hq, .pass (x := .inLoop c) rfl (fun _ _ => .inl (by simp)) harr⟩
      | panic ch => exact ⟨_, a₁, w₁, hq, .pass (x := .inLoop c) rfl (fun _ _ => .inl (by simp)) harr⟩
      | outgrown => exact ⟨_, a₁, w₁, hq, .pass (x := .inLoop c) rfl (fun _ _ => .inl (by simp)) harr⟩
  intro b k cs
  obtain ⟨e, a', w', hq, harr⟩ := key _ x0 a w rfl (hs.weaken (subs_get h0)) (hR w hr) b k cs
  exact ⟨e, a', w', hq, .of_steps (.one step_loop) harr⟩

theorem ex_again {ι : Type} {Li : ι → Slots} {Ri : ι → World → Prop} {μ : ι → Nat} {x : ι} (y : ι) (hl : subs L (Li y)) (hr : ∀ w, R w → Ri y w) (hm : μ y < μ x) :
    EX (Exit.then (Again n Li Ri μ x) Q) .normal n R L :=
  fun _ w hs h => ⟨y, hs.weaken (subs_get hl), hr w h, hm⟩

/-! ### Entry and return -/
def argSlots : Nat → List Value → Slots
  | _, [] => []
  | i, v :: r => (i, v) :: argSlots (i + 1) r

theorem get_argSlots (t : Nat) (v : Value) : ∀ (l : List Value) (i : Nat), get (argSlots i l) t = some v → i ≤ t ∧ l[t - i]? = some v
  | [], i, h => by simp [argSlots, get] at h
  | u :: r, i, h => by
    simp only [argSlots] at h
    rw [get_cons] at h
    by_cases e : i = t
    · subst e; simp only [if_true] at h; cases h; simp
    · rw [if_neg e] at h
      have := get_argSlots t v r (i + 1) h
      refine ⟨by omega, ?_⟩
      have e2 : t - i = (t - (i + 1)) + 1 := by omega
      rw [e2, List.getElem?_cons_succ]; exact this.2

theorem enter {f : FuncId} {fn : Func} {c : Code} {args : List Value} {w0 : World} {post : Ending → World → Prop}
    (hf : P.funcs[f]? = some fn) (hb : fn.body = some c) {m : Nat} (hn : fn.ntmps = m) (hna : args.length ≤ m) (h0 : R w0)
    (h : WPC P (bodyPost P fn post) ⟨m, []⟩ R (argSlots 0 args) c) : Calls P f args.toArray w0 post := by
  refine calls_of_wp hf hb (h _ w0 ⟨?_, rfl, fun t v hv => ?_⟩ h0)
  · simp [hn]; omega
  · have := (get_argSlots t v args 0 hv).2
    simp only [Nat.sub_zero] at this
    have hlt : t < args.length := by
      rcases Nat.lt_or_ge t args.length with h | h
      · exact h
      · rw [List.getElem?_eq_none h] at this; cases this
    rw [List.getElem?_eq_getElem hlt] at this
    simpa [Array.getElem?_append, hlt] using this

theorem ret1 {m : Nat} {fn : Func} {post : Ending → World → Prop} {t : Tmp} {v : Value} {e : Exit} (he : e = .ret ∨ e = .normal) (hr : fn.results = #[.tmp t]) (hv : get L t = some v) (h : ∀ w, R w → post (.returned v) w) :
    EX (bodyPost P fn post) e ⟨m, []⟩ R L := by
  intro a w hs hw
  have hx : (results fn a.tmps).run P w = .ok v w := by
    rw [results_tmp hr]; simp [hs.tmp t v hv]
  rcases he with rfl | rfl <;> exact ⟨hs.defers, v, hx, h w hw⟩

theorem ret0 {m : Nat} {fn : Func} {post : Ending → World → Prop} {e : Exit} (he : e = .ret ∨ e = .normal) (hr : fn.results = #[]) (h : ∀ w, R w → post (.returned (.tuple #[])) w) :
    EX (bodyPost P fn post) e ⟨m, []⟩ R L := by
  intro a w hs hw
  have hx := results_none hr a.tmps P w
  rcases he with rfl | rfl <;> exact ⟨hs.defers, _, hx, h w hw⟩

theorem ret2 {m : Nat} {fn : Func} {post : Ending → World → Prop} {t u : Tmp} {v v2 : Value} {e : Exit} (he : e = .ret ∨ e = .normal) (hr : fn.results = #[.tmp t, .tmp u]) (hv : get L t = some v) (hv2 : get L u = some v2)
    (h : ∀ w, R w → post (.returned (.tuple #[v, v2])) w) : EX (bodyPost P fn post) e ⟨m, []⟩ R L := by
  intro a w hs hw
  have hx : (results fn a.tmps).run P w = .ok (.tuple #[v, v2]) w := by
    rw [results_tmp2 hr]; simp [hs.tmp t v hv, hs.tmp u v2 hv2]
  rcases he with rfl | rfl <;> exact ⟨hs.defers, _, hx, h w hw⟩
end
end Go.PL
