/- Ranges over a function: rounds, yields, the statement, and a function that holds one. -/
import Derived.Test.YtoaeklbenmlooaaPLS
import Derived.RangeFuncSeq
import Derived.RangeFuncCalls
import Derived.RangeFuncLeaves
import Derived.RangeFuncKeeps
import Derived.TacticsIn
namespace Go.PL
set_option linter.unusedSimpArgs false
set_option linter.unusedVariables false
open Go Go.RowKit

/-- A fence that lets all in. -/
structure Open (F : Fence) : Prop where
  fn : ∀ f, F.fn f
  depth : F.depth = none
  calls : ∀ (P : Program) (f : FuncId) (args : Array Value) (w : World) (R : Ending → World → Prop), Calls P f args w R → CallsIn F 0 P f args w R
  rows : ∀ (P : Program) (r : String) (args : Array Value) (w : World) (R : Value → World → Prop), Rows P r args w R → RowsIn F 0 P r args w R
theorem open_wide : Open Fence.wide := ⟨fun _ => trivial, rfl, fun P f args w R h => callsIn_wide.2 h, fun P r args w R h c cs hr => by
  obtain ⟨v, w', hR, hs⟩ := h c cs
  exact ⟨v, w', hR, stepsIn_wide.2 hs⟩⟩
theorem open_round (l : Nat) : Open (Fence.wide.inRound l) := ⟨fun _ => trivial, rfl, fun P f args w R h => CallsIn.inRound l (callsIn_wide.2 h), fun P r args w R h c cs hr => by
  obtain ⟨v, w', hR, hs⟩ := h c cs
  exact ⟨v, w', hR, stepsIn_wide.2 hs⟩⟩
section
variable {F : Fence} {P : Program} {n : Cx} {R : World → Prop} {L : Slots} {Q : Exit → Act → World → Prop} {ops : Array Oper} {rest : List Oper} {op : Op} {ty : TypeId} {pos : String} {af : Array Edge} {d : Tmp}

theorem wpIn_of_wp (hF : Open F) {o : Oper} {a : Act} {w : World} {K : Act → World → Prop} (hd : ∀ c, o.op ≠ .defer c) (h : o.wp P a w K Q) : o.wpIn F 0 P a w K Q := by
  refine ⟨fun f _ => hF.fn f, ?_⟩
  rw [Oper.semAt_eq _ _ _ hd]
  unfold Oper.wp at h
  have hdep : F.depth.isSome = true → 1 ≤ 0 := fun e => by rw [hF.depth] at e; cases e
  generalize (execOp a.eval o).run P w = r at h
  unfold Oper.upon at h
  unfold Oper.uponIn
  split at h
  · exact h
  · exact h
  · exact h
  · exact ⟨hdep, hF.calls _ _ _ _ _ h⟩
  · exact ⟨hdep, hF.rows _ _ _ _ _ h⟩
  · exact h
  · exact h.elim

def WPLI (F : Fence) (P : Program) (ops : Array Oper) (Q : Exit → Act → World → Prop) (n : Cx) (R : World → Prop) (L : Slots) (rest : List Oper) : Prop :=
  ∀ a w, Sl n a L → R w → wpListIn F 0 P ops Q rest a w
def WPCI (F : Fence) (P : Program) (Q : Exit → Act → World → Prop) (n : Cx) (R : World → Prop) (L : Slots) (c : Code) : Prop :=
  ∀ a w, Sl n a L → R w → c.wpIn F 0 P Q a w

theorem wpli_t (hF : Open F) {ι : Type} {V : ι → Value} {R' : ι → World → Prop} (hop : TOp P Q n R L op ι V R') (hd : Nat.blt d n.n = true) (next : ∀ x, WPLI F P ops Q n (R' x) ((d, V x) :: L) rest) (hdf : ∀ c, op ≠ .defer c := by intro c h; cases h) :
    WPLI F P ops Q n R L (⟨some d, op, ty, pos, af, none⟩ :: rest) := by
  intro a w hs hr
  unfold wpListIn
  simp only [Region.wanted, if_true]
  exact wpIn_of_wp hF hdf (hop _ _ _ _ _ a w _ hs hr fun x w' h' => next x _ _ (hs.put hd (V x)) h')
theorem wpli_t0 (hF : Open F) {ι : Type} {V : ι → Value} {R' : ι → World → Prop} (hop : TOp P Q n R L op ι V R') (next : ∀ x, WPLI F P ops Q n (R' x) L rest) (hdf : ∀ c, op ≠ .defer c := by intro c h; cases h) :
    WPLI F P ops Q n R L (⟨none, op, ty, pos, af, none⟩ :: rest) := by
  intro a w hs hr
  unfold wpListIn
  simp only [Region.wanted, if_true]
  exact wpIn_of_wp hF hdf (hop _ _ _ _ _ a w _ hs hr fun x w' h' => next x _ _ hs h')
theorem wpli_q (hF : Open F) {v : Value} (hop : QOp P n R L op v) (hd : Nat.blt d n.n = true) (next : WPLI F P ops Q n R ((d, v) :: L) rest) (hdf : ∀ c, op ≠ .defer c := by intro c h; cases h) :
    WPLI F P ops Q n R L (⟨some d, op, ty, pos, af, none⟩ :: rest) := wpli_t hF (hop.top (Q := Q)) hd (fun _ => next) hdf
theorem wpli_nil (h : EX Q .normal n R L) : WPLI F P ops Q n R L [] := fun a w hs hr => h a w hs hr
theorem wpli_fact {p : Prop} (h : ∀ w, R w → p) (k : p → WPLI F P ops Q n R L rest) : WPLI F P ops Q n R L rest := fun a w hs hr => k (h w hr) a w hs hr
theorem wpci_fact {c : Code} {p : Prop} (h : ∀ w, R w → p) (k : p → WPCI F P Q n R L c) : WPCI F P Q n R L c := fun a w hs hr => k (h w hr) a w hs hr
/-- yield: the round of the caller's loop. -/
theorem wpli_yield {x : Operand} {args : Array Operand} {at_ : Array TypeId} {l : Nat} {vs : List Value} {ι : Type} {V : ι → Value} {R' : ι → World → Prop} (hx : ev L x = some (.func (.yield l) #[] #[])) (hv : evs L args.toList = some vs)
    (hy : ∀ w, R w → YieldAt Fence.wide 0 P l vs.toArray w fun e w' => ∃ i, e = .returned (V i) ∧ R' i w') (hd : Nat.blt d n.n = true) (next : ∀ i, WPLI Fence.wide P ops Q n (R' i) ((d, V i) :: L) rest) :
    WPLI Fence.wide P ops Q n R L (⟨some d, .call { callee := .value x, args := args, argTypes := at_ }, ty, pos, af, none⟩ :: rest) := by
  intro a w hs hr
  have hargs : args.map a.eval = vs.toArray := by
    have e : (args.map a.eval).toList = vs := by rw [Array.toList_map]; exact evs_eval hs hv
    rw [← e]
  obtain ⟨fn, tmps, assign, body, hrun, hround⟩ := hy w hr
  unfold wpListIn
  simp only [Region.wanted, if_true]
  refine ⟨fun f _ => trivial, ?_⟩
  have hrun' : (execOp a.eval ⟨some d, .call { callee := .value x, args := args, argTypes := at_ }, ty, pos, af, none⟩).run P w = .ok (.round l fn tmps assign body) w := by
    simp only [execOp, resolve, hs.eval hx, hargs]
    simp [Deferred.ofValue, invoke, hrun]
  have hsem : Oper.semAt Fence.wide.round a.eval ⟨some d, .call { callee := .value x, args := args, argTypes := at_ }, ty, pos, af, none⟩ = execOp a.eval ⟨some d, .call { callee := .value x, args := args, argTypes := at_ }, ty, pos, af, none⟩ := rfl
  rw [hsem, hrun']
  refine ⟨fun e => by simp [Fence.wide] at e, ?_⟩
  refine RoundIn.mono hround ?_
  rintro e w' ⟨i, rfl, h'⟩
  exact next i _ _ (hs.put hd (V i)) h'
theorem wpci_region {id : Nat} {l : List Oper} (h : WPLI F P l.toArray Q n R L l) : WPCI F P Q n R L (.region id l.toArray false) := by
  intro a w hs hr
  refine wpIn_region ?_
  have := h a w hs hr
  have e := wpOpsIn_eq_wpListIn (F := F) (n := 0) (P := P) (ops := l.toArray) (Q := Q) l 0 (fun j => by simp)
  rw [List.range_eq_range', List.size_toArray, e]
  exact this
/-- A region with a yield. -/
theorem wpc_region_y {id : Nat} {l : List Oper} (h : WPLI Fence.wide P l.toArray Q n R L l) : WPC P Q n R L (.region id l.toArray false) := fun a w hs hr => (wpIn_wide (n := 0)).1 (wpci_region h a w hs hr)
theorem wpci_seq {x y : Code} (h : WPCI F P (Exit.then (y.wpIn F 0 P Q) Q) n R L x) : WPCI F P Q n R L (.seq x y) := fun a w hs hr => wpIn_seq (h a w hs hr)
theorem exi_then {y : Code} (h : WPCI F P Q n R L y) : EX (Exit.then (y.wpIn F 0 P Q) Q) .normal n R L := fun a w hs hr => h a w hs hr
theorem wpci_block {id : Nat} {c : Code} (h : WPCI F P (Exit.inBlock id Q) n R L c) : WPCI F P Q n R L (.block id c) := fun a w hs hr => wpIn_block (h a w hs hr)
theorem wpci_skip (h : EX Q .normal n R L) : WPCI F P Q n R L .skip := fun a w hs hr => wpIn_skip (h a w hs hr)
theorem wpci_ret (h : EX Q .ret n R L) : WPCI F P Q n R L .ret := fun a w hs hr => wpIn_ret (h a w hs hr)
theorem wpci_exit {i : Nat} (h : EX Q (.exit i) n R L) : WPCI F P Q n R L (.exit i) := fun a w hs hr => wpIn_exit (h a w hs hr)
theorem wpci_cond {c : Operand} {x y : Code} {b : Bool} (hc : ev L c = some (.bool b)) (ht : b = true → WPCI F P Q n R L x) (hf : b = false → WPCI F P Q n R L y) : WPCI F P Q n R L (.cond c x y) :=
  fun a w hs hr => wpIn_cond_split (hs.eval hc) (fun h => ht h a w hs hr) (fun h => hf h a w hs hr)

/-! ### What an iterator promises -/
/-- It yields 'ys' in turn ('x' as the arguments 'encs x i', of which 'At' says what lies behind them), to any body that keeps the iterator's blocks T; 'Inv' is what it reads. -/
def IterOk (P : Program) (gf : FuncId) (lb : Array Value) {α ι : Type} (encs : α → ι → Array Value) (At : List Nat → α → ι → World → Prop) (Inv : World → Prop) (xs : List α) (W : World) : Prop :=
  ∀ (l : Nat) (J : List Nat → List α → World → Prop),
    (∀ T T' pre w1 w2, J T pre w1 → Mem w1 T [] [] w2 → (∀ k, k ∈ T' → (k ∈ T ∨ w1.heap.size ≤ k) ∧ k < w2.heap.size) → J T' pre w2) →
    (∀ T pre w1, J T pre w1 → Inv w1) →
    (∀ T pre x i w1, J T pre w1 → (pre ++ [x]) <+: xs → At T x i w1 → YieldAt Fence.wide 0 P l (encs x i) w1 fun e w' => e = .returned (.bool true) ∧ J T (pre ++ [x]) w' ∧ w1.heap.size ≤ w'.heap.size ∧ ∀ k, k ∈ T → w'.heap[k]? = w1.heap[k]?) →
    J [] [] W → Calls P gf (#[.func (.yield l) #[] #[]] ++ lb) W fun e w' => (∃ v, e = .returned v) ∧ ∃ T, J T xs w'

/-- The mark that a range leaves behind. -/
def mark (D : Nat) : Deferred := { target := .collected D, args := #[] }

/-- How a round's body is left: off its end. -/
def RoundPost (R' : World → Prop) : Exit → Act → World → Prop
  | .normal, _, w => R' w
  | _, _, _ => False
theorem ex_round {R' : World → Prop} (h : ∀ w, R w → R' w) : EX (RoundPost R') .normal n R L := fun a w hs hr => h w hr

/-- The slots of a round: what was known where the loop began, and the loop's variables. -/
def addSlots : List Tmp → List Value → Slots → Slots
  | p :: ps, v :: vs, L => addSlots ps vs ((p, v) :: L)
  | _, _, L => L
theorem sl_adds : ∀ (ps : List Tmp) (vs : List Value) (L : Slots) (t : Array Value) (k : Nat), ps.length = vs.length → (∀ p ∈ ps, p < k) → Sl ⟨k, []⟩ { tmps := t, defers := [] } L →
    Sl ⟨k, []⟩ { tmps := ((ps.zip vs).foldl (fun t (p, v) => t.setIfInBounds p v) t), defers := [] } (addSlots ps vs L)
  | [], [], L, t, k, _, _, h => h
  | p :: ps, v :: vs, L, t, k, hl, hp, h => by
    simp only [List.zip_cons_cons, List.foldl_cons, addSlots]
    refine sl_adds ps vs _ _ k (by simpa using hl) (fun q hq => hp q (List.mem_cons_of_mem _ hq)) ?_
    have := h.put (d := p) (by have := hp p (List.mem_cons_self ..); simpa using this) v
    simpa [Act.put] using this
  | [], _ :: _, _, _, _, hl, _, _ => by simp at hl
  | _ :: _, [], _, _, _, hl, _, _ => by simp at hl
end

section
variable {w0 w : World} {Ln : List Nat} {M : List Ent} {S : List Fact}
theorem Mem.allocO (h : Mem w0 Ln M S w) (o : Obj) : Mem w0 Ln (.obj w.heap.size o :: M) S (w.alloc o) := by
  have hlt : ∀ e ∈ M, ∀ k, e.num = some k → k < w.heap.size := fun e he k hk => Ent.lt (h.own e he) hk
  refine h.step rfl rfl rfl (by simp) (fun k hk _ _ => (World.grownBy_alloc w o none).block k hk (by simp)) ?_ ?_ ?_ ?_
  · intro e he
    rcases List.mem_cons.1 he with rfl | he
    · exact World.alloc_heap_new w o
    · exact Ent.kept (h.own e he) fun k hk => (World.grownBy_alloc w o none).block k (hlt e he k hk) (by simp)
  · intro e he k hk
    rcases List.mem_cons.1 he with rfl | he
    · simp only [Ent.num, Option.some.injEq] at hk; subst hk; exact .inl h.size
    · exact h.new e he k hk
  · refine List.pairwise_cons.2 ⟨fun f hf k hk hfk => ?_, h.apart⟩
    simp only [Ent.num, Option.some.injEq] at hk
    have := hlt f hf k hfk
    omega
  · intro k hk hm
    simp only [inM, List.any_cons, Bool.or_eq_false_iff]
    refine ⟨?_, hm⟩
    simp [Ent.num]; omega
theorem Mem.putO {M' : List Ent} (h : Mem w0 Ln M S w) {b : Nat} {o o' : Obj} (hr : Repl M (.obj b o) (.obj b o') M') : Mem w0 Ln M' S (w.putObj b o') := by
  have hb : w.heap[b]? = some o := h.own _ hr.mem
  refine h.turn hr rfl rfl rfl (by simp) (fun k _ hne => World.putObj_heap_other fun e => hne (by simp [Ent.num, e])) ?_ ?_
  · exact World.putObj_heap_same (Array.getElem?_eq_some_iff.1 hb).1
  · intro k hk; exact .inl hk
theorem inM_append (X M : List Ent) (k : Nat) : inM (X ++ M) k = (inM X k || inM M k) := by simp [inM]
/-- What is owned beside what is lent stays. -/
theorem Mem.framed {X M' : List Ent} {w1 : World} {S' : List Fact} (h1 : Mem w0 Ln (X ++ M) S w1) (h2 : Mem w1 (nums M) M' S' w) : Mem w0 Ln (X ++ M') [] w := by
  have hX : Mem w0 Ln M S w1 := by
    refine ⟨h1.os, h1.tape, h1.output, h1.size, h1.old, fun e he => h1.own e (List.mem_append_right _ he), fun e he => h1.new e (List.mem_append_right _ he), (List.pairwise_append.1 h1.apart).2.1, fun s hs => s.mono _ _ (fun a v hv => ?_) (h1.facts s hs)⟩
    simp only [rdF] at hv ⊢
    split at hv
    · rename_i hc
      have : inM M a.block = false := by
        have := hc.2; rw [inM_append, Bool.or_eq_false_iff] at this; exact this.2
      rw [if_pos ⟨hc.1, this⟩]; exact hv
    · cases hv
  have h3 := hX.trans h2
  obtain ⟨pX, pM, pXM⟩ := List.pairwise_append.1 h1.apart
  refine ⟨h3.os, h3.tape, h3.output, h3.size, h3.old, fun e he => ?_, fun e he => ?_, ?_, fun _ hs => (by cases hs)⟩
  · rcases List.mem_append.1 he with he | he
    · refine Ent.kept (h1.own e (List.mem_append_left _ he)) fun k hk => h2.old k (Ent.lt (h1.own e (List.mem_append_left _ he)) hk) fun hm => ?_
      obtain ⟨f, hf, hn⟩ := mem_nums.1 hm
      exact pXM e he f hf k hk hn
    · exact h3.own e he
  · rcases List.mem_append.1 he with he | he
    · exact h1.new e (List.mem_append_left _ he)
    · exact h3.new e he
  · refine List.pairwise_append.2 ⟨pX, h3.apart, fun e he f hf k hk hfk => ?_⟩
    rcases h2.new f hf k hfk with h | h
    · have := Ent.lt (h1.own e (List.mem_append_left _ he)) hk; omega
    · obtain ⟨g, hg, hn⟩ := mem_nums.1 h
      exact pXM e he g hg k hk hn
end

theorem ex_assign {m : Nat} {R : World → Prop} {L L1 : Slots} {K : Act → World → Prop} {Q : Exit → Act → World → Prop} (hK : ∀ a w, Sl ⟨m, []⟩ a L1 → R w → K a w) (hl : subs L L1) : EX (Exit.then K Q) .normal ⟨m, []⟩ R L :=
  fun a w hs hr => hK a w (hs.weaken (subs_get hl)) hr

/-- **'for x := range g { .. }'**, the body never left but off its end. -/
theorem wpc_range {P : Program} {Q : Exit → Act → World → Prop} {g : Operand} {ps : Array Tmp} {assign body : Code} {k : Nat} {L : Slots} {w0 : World} {Ln : List Nat} {S : List Fact} {α ι : Type} {gf : FuncId} {lb : Array Value}
    {encs : α → ι → Array Value} {At : List Nat → α → ι → World → Prop} {Inv : World → Prop} {xs : List α} (M : List α → List Ent) (L1 : α → ι → Slots)
    (hg : ev L g = some (.func (.func gf) #[] lb)) (hbd : HasBody P gf)
    (hit : ∀ w, Mem w0 Ln (M []) S w → IterOk P gf lb encs At Inv xs w) (hInv : ∀ pre w, Mem w0 Ln (M pre) [] w → Inv w)
    (hAt : ∀ T x i w w', At T x i w → (∀ j, j ∈ T → w'.heap[j]? = w.heap[j]?) → At T x i w')
    (hps : ∀ x i, (encs x i).size = ps.size) (hpk : ∀ p ∈ ps.toList, p < k)
    (hassign : ∀ (l : Nat) (x : α) (i : ι) (R : World → Prop) (K : Act → World → Prop), (∀ a w, Sl ⟨k, []⟩ a (L1 x i) → R w → K a w) →
      WPCI (Fence.wide.inRound l) P (Exit.then K (fun _ _ _ => False)) ⟨k, []⟩ R (addSlots ps.toList (encs x i).toList L) assign)
    (hbody : ∀ (l : Nat) (pre : List α) (x : α) (i : ι) (w1 : World) (T : List Nat), (pre ++ [x]) <+: xs → Mem w0 Ln (M pre) [] w1 → At T x i w1 → (∀ j, j ∈ T → w0.heap.size ≤ j ∧ inM (M pre) j = false) →
      WPCI (Fence.wide.inRound l) P (RoundPost (Mem w1 (nums (M pre)) (M (pre ++ [x])) [])) ⟨k, []⟩ (Mem w1 (nums (M pre)) (M pre) []) (L1 x i) body)
    (hdone : ∀ D, EX Q .normal ⟨k, [mark D]⟩ (Mem w0 Ln (.obj D (.deferred (some [])) :: M xs) []) L) :
    WPC P Q ⟨k, []⟩ (Mem w0 Ln (M []) S) L (.rangeFunc g ps assign body) := by
  intro a w hs hr
  refine (wpIn_wide (n := 0)).1 (wpIn_rangeFunc ?_)
  intro fn hfn
  obtain ⟨rec, hrec⟩ : ∃ rec : LoopState → Loop, rec = fun st => { state := st, pending := none, fn, tmps := a.tmps, params := ps, assign, body, defers := w.heap.size } := ⟨_, rfl⟩
  obtain ⟨W1, hW1⟩ : ∃ W1, (w.alloc (.deferred (some []))).alloc (.loop (rec .ready)) = W1 := ⟨_, rfl⟩
  have hM1 : Mem w0 Ln (.obj (w.heap.size + 1) (.loop (rec .ready)) :: .obj w.heap.size (.deferred (some [])) :: M []) S W1 := by
    have := (hr.allocO (.deferred (some []))).allocO (.loop (rec .ready))
    rw [World.size_alloc] at this
    rw [← hW1]; exact this
  have hsz1 : W1.heap.size = w.heap.size + 2 := by rw [← hW1]; simp
  have hw0 := hr.size
  have hr1 : Mem w0 Ln (M []) S W1 := hM1.sub (.drop (.drop (Sub.refl _))) (Sub.refl _)
  refine ⟨w.heap.size + 1, [mark w.heap.size], W1, { target := .fn (.func gf) lb, args := #[.func (.yield (w.heap.size + 1)) #[] #[]] }, W1, gf, #[.func (.yield (w.heap.size + 1)) #[] #[]] ++ lb, W1, ?_, ?_, fun _ _ => trivial, ?_, fun e => by simp [Fence.wide] at e, ?_⟩
  · rw [← hW1, hrec]; exact run_enterLoop_outer _ _ _ _ _
  · simp only [resolve, rangeCall, hs.eval hg]
    simp [go_sem]
  · simp [invoke, run_callFunc hbd]
  · refine callsIn_wide.2 ?_
    let J : List Nat → List α → World → Prop := fun T pre w' => Mem w0 Ln (.obj (w.heap.size + 1) (.loop (rec .ready)) :: .obj w.heap.size (.deferred (some [])) :: M pre) [] w' ∧ W1.heap.size ≤ w'.heap.size ∧
      ∀ j, j ∈ T → W1.heap.size ≤ j ∧ inM (M pre) j = false ∧ j < w'.heap.size
    refine (hit W1 hr1 (w.heap.size + 1) J ?_ ?_ ?_ ⟨hM1.sub (Sub.refl _) .nil, Nat.le_refl _, fun _ h => (by cases h)⟩).mono ?_
    · rintro T T' pre w1 w2 ⟨j1, j2, j3⟩ hc hT
      have hnot : ∀ j, j ∈ T → w0.heap.size ≤ j ∧ inM (.obj (w.heap.size + 1) (.loop (rec .ready)) :: .obj w.heap.size (.deferred (some [])) :: M pre) j = false := fun j hj => by
        obtain ⟨a1, a2, _⟩ := j3 j hj
        refine ⟨by omega, ?_⟩
        simp only [inM, List.any_cons, Bool.or_eq_false_iff, Ent.num]
        refine ⟨by simp; omega, by simp; omega, a2⟩
      refine ⟨j1.chg hc hnot, Nat.le_trans j2 hc.size, fun j hj => ?_⟩
      obtain ⟨h1, h2⟩ := hT j hj
      rcases h1 with h1 | h1
      · exact ⟨(j3 j h1).1, (j3 j h1).2.1, h2⟩
      · refine ⟨by omega, ?_, h2⟩
        cases hm : inM (M pre) j
        · rfl
        · obtain ⟨e, he, hn⟩ := inM_iff.1 hm
          have := Ent.lt (j1.own e (List.mem_cons_of_mem _ (List.mem_cons_of_mem _ he))) hn
          omega
    · rintro T pre w1 ⟨j1, _⟩
      exact hInv pre w1 (j1.sub (.drop (.drop (Sub.refl _))) .nil)
    · rintro T pre x i w1 ⟨j1, j2, j3⟩ hpre hat
      have hl : w1.heap[w.heap.size + 1]? = some (.loop (rec .ready)) := j1.own _ (List.mem_cons_self ..)
      have hy := run_yield (P := P) (args := encs x i) hl (by rw [hrec]; exact hps x i)
      rw [hrec] at hy
      refine ⟨fn, _, assign, body, hy, roundIn_of_wpIn hfn ?_⟩
      obtain ⟨w2, hw2⟩ : ∃ w2, w1.putObj (w.heap.size + 1) (.loop { rec .ready with state := .busy }) = w2 := ⟨_, rfl⟩
      have j4 : Mem w0 Ln ([.obj (w.heap.size + 1) (.loop { rec .ready with state := .busy }), .obj w.heap.size (.deferred (some []))] ++ M pre) [] w2 := by
        rw [← hw2]; exact j1.putO .here
      have hbr : (Instr.beginRound (w.heap.size + 1)).run P w1 = .ok () w2 := by rw [← hw2]; exact run_beginRound hl (by rw [hrec])
      have hm2 : Mem w0 Ln (M pre) [] w2 := j4.sub (.drop (.drop (Sub.refl _))) .nil
      have hs2 : w2.heap.size = w1.heap.size := by rw [← hw2]; simp
      have hT2 : ∀ j, j ∈ T → w2.heap[j]? = w1.heap[j]? := fun j hj => by
        rw [← hw2]; exact World.putObj_heap_other (by have := (j3 j hj).1; omega)
      have hbd2 := hbody (w.heap.size + 1) pre x i w2 T hpre hm2 (hAt T x i w1 w2 hat hT2) (fun j hj => ⟨by have := (j3 j hj).1; omega, (j3 j hj).2.1⟩)
      have hsl : Sl ⟨k, []⟩ { tmps := ((ps.zip (encs x i)).foldl (fun t (p, v) => t.setIfInBounds p v) a.tmps), defers := [] } (addSlots ps.toList (encs x i).toList L) := by
        have hs0 : Sl ⟨k, []⟩ { tmps := a.tmps, defers := [] } L := ⟨hs.size, rfl, hs.tmp⟩
        have := sl_adds ps.toList (encs x i).toList L a.tmps k (by simpa using (hps x i).symm) hpk hs0
        rw [← Array.foldl_toList, Array.toList_zip]
        exact this
      refine hassign (w.heap.size + 1) x i (fun w' => w' = w1) _ (fun a1 w' hs1 hw' => ?_) _ w1 hsl rfl
      subst hw'
      refine ⟨w2, hbr, wpIn_mono (hbd2 a1 w2 hs1 (by have := hm2.base; exact this)) ?_⟩
      rintro e a3 w3 hp
      cases e with
      | normal =>
        have hp' : Mem w2 (nums (M pre)) (M (pre ++ [x])) [] w3 := hp
        have j5 := j4.framed hp'
        have hl3 : w3.heap[w.heap.size + 1]? = some (.loop { rec .ready with state := .busy }) := j5.own _ (List.mem_cons_self ..)
        have hend := run_endRound (P := P) none hl3
        have hback : { { rec .ready with state := .busy } with state := if (none : Option Code).isNone then .ready else .done, pending := none } = rec .ready := by rw [hrec]; rfl
        rw [hback] at hend
        have hnT : ∀ j, j ∈ T → j ∉ nums (M pre) := fun j hj hm => by
          obtain ⟨e, he, hn⟩ := mem_nums.1 hm
          exact inM_not (j3 j hj).2.1 e he hn
        have hTs : ∀ j, j ∈ T → (w3.putObj (w.heap.size + 1) (.loop (rec .ready))).heap[j]? = w'.heap[j]? := fun j hj => by
          rw [World.putObj_heap_other (by have := (j3 j hj).1; omega), hp'.old j (by rw [hs2]; exact (j3 j hj).2.2) (hnT j hj)]
          exact hT2 j hj
        have hsz3 := hp'.size
        refine ⟨_, _, hend, rfl, ⟨?_, ?_, fun j hj => ⟨(j3 j hj).1, ?_, ?_⟩⟩, by rw [World.putObj_size]; omega, hTs⟩
        · exact j5.putO .here
        · rw [World.putObj_size]; omega
        · cases hm : inM (M (pre ++ [x])) j
          · rfl
          · obtain ⟨e, he, hn⟩ := inM_iff.1 hm
            rcases hp'.new e he j hn with h | h
            · have := (j3 j hj).2.2; omega
            · exact absurd h (hnT j hj)
        · rw [World.putObj_size]; have := (j3 j hj).2.2; omega
      | ret => exact (hp : False).elim
      | exit id => exact (hp : False).elim
      | goto t => exact (hp : False).elim
      | panic ch => exact (hp : False).elim
      | outgrown => exact (hp : False).elim
    · rintro e w2 ⟨⟨v, rfl⟩, T, j1, j2, j3⟩
      have hl : w2.heap[w.heap.size + 1]? = some (.loop (rec .ready)) := j1.own _ (List.mem_cons_self ..)
      have hend := run_endLoop (P := P) hl (by rw [hrec]; simp)
      have hp : (rec .ready).pending = none := by rw [hrec]
      rw [hp] at hend
      refine ⟨none, _, hend, ?_⟩
      have hd : a.defers = [] := hs.defers
      refine hdone w.heap.size _ _ ⟨hs.size, by simp [hd], hs.tmp⟩ ?_
      exact (j1.putO .here).sub (.drop (Sub.refl _)) .nil

/-- A function that holds a range over a function. -/
theorem enterM {P : Program} {R : World → Prop} {f : FuncId} {fn : Func} {c : Code} {args : List Value} {w0 : World} {post : Ending → World → Prop}
    (hf : P.funcs[f]? = some fn) (hb : fn.body = some c) {m : Nat} (hn : fn.ntmps = m) (hna : args.length ≤ m) (h0 : R w0)
    (h : WPC P (bodyPostM Fence.wide 0 P fn post) ⟨m, []⟩ R (argSlots 0 args) c) : Calls P f args.toArray w0 post := by
  refine callsIn_wide.1 (callsIn_of_wp_marks (n := 0) hf hb trivial ((wpIn_wide (n := 0)).2 (h _ w0 ⟨?_, rfl, fun t v hv => ?_⟩ h0)))
  · simp [hn]; omega
  · have := (get_argSlots t v args 0 hv).2
    simp only [Nat.sub_zero] at this
    have hlt : t < args.length := by
      rcases Nat.lt_or_ge t args.length with h | h
      · exact h
      · rw [List.getElem?_eq_none h] at this; cases this
    rw [Array.getElem?_append_left (by simpa using hlt)]
    simpa using this
/-- It returns: the mark is taken. -/
theorem ex_mark {P : Program} {fn : Func} {post : Ending → World → Prop} {m D : Nat} {e : Exit} {L : Slots} {w0 : World} {Ln : List Nat} {M M' : List Ent} {S : List Fact} (he : e = .ret ∨ e = .normal) (hr : Repl M (.obj D (.deferred (some []))) (.obj D (.deferred none)) M')
    (h : EX (bodyPost P fn post) e ⟨m, []⟩ (Mem w0 Ln M' S) L) : EX (bodyPostM Fence.wide 0 P fn post) e ⟨m, [mark D]⟩ (Mem w0 Ln M S) L := by
  intro a w hs hw
  have hD : w.heap[D]? = some (.deferred (some [])) := hw.own _ hr.mem
  have h1 := h { tmps := a.tmps, defers := [] } (w.putObj D (.deferred none)) ⟨hs.size, rfl, hs.tmp⟩ (hw.putO hr)
  have hd : a.defers = [mark D] := hs.defers
  rcases he with rfl | rfl
  · obtain ⟨_, v, hv, hp⟩ := h1
    show LeavesInM _ _ _ _ _ _ a.defers _ _
    rw [hd]
    exact ⟨by simp, .inl ⟨D, _, rfl, run_takeDeferred hD, v, hv, hp⟩⟩
  · obtain ⟨_, v, hv, hp⟩ := h1
    show LeavesInM _ _ _ _ _ _ a.defers _ _
    rw [hd]
    exact ⟨by simp, .inl ⟨D, _, rfl, run_takeDeferred hD, v, hv, hp⟩⟩
end Go.PL
