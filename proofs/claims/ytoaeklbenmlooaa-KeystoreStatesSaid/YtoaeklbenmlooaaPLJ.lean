/- Iterators that may be stopped: what they promise, how they yield, and a range whose body may be left early. -/
import Derived.Test.YtoaeklbenmlooaaPLQ
namespace Go.PL
set_option linter.unusedSimpArgs false
set_option linter.unusedVariables false
open Go Go.RowKit
section
variable {F : Fence} {P : Program} {n : Cx} {R : World → Prop} {L : Slots} {Q : Exit → Act → World → Prop} {ops : Array Oper} {rest : List Oper} {op : Op} {ty : TypeId} {pos : String} {af : Array Edge} {d : Tmp}

/-- What the caller says between two rounds does not mind what the iterator does. -/
def StabJ {α : Type} (J : List Nat → List α → World → Prop) : Prop := ∀ T T' pre w1 w2, J T pre w1 → Mem w1 T [] [] w2 → (∀ k, k ∈ T' → (k ∈ T ∨ w1.heap.size ≤ k) ∧ k < w2.heap.size) → J T' pre w2
/-- Nor what it says where it has stopped it. -/
def StabK (K : World → Prop) : Prop := ∀ w1 w2, K w1 → Mem w1 [] [] [] w2 → K w2
/-- A call of yield: it goes on, or stops. -/
def YieldS (P : Program) (l : Nat) {α ι : Type} (encs : α → ι → Array Value) (At : List Nat → α → ι → World → Prop) (xs : List α) (J : List Nat → List α → World → Prop) (K : World → Prop) : Prop :=
  ∀ T pre x i w1, J T pre w1 → (pre ++ [x]) <+: xs → At T x i w1 → YieldAt Fence.wide 0 P l (encs x i) w1 fun e w' =>
    (e = .returned (.bool true) ∧ J T (pre ++ [x]) w' ∧ w1.heap.size ≤ w'.heap.size ∧ ∀ k, k ∈ T → w'.heap[k]? = w1.heap[k]?) ∨ (e = .returned (.bool false) ∧ K w')
/-- It yields 'xs' in turn till it is stopped. -/
def IterStop (P : Program) (gf : FuncId) (lb : Array Value) {α ι : Type} (encs : α → ι → Array Value) (At : List Nat → α → ι → World → Prop) (Inv : World → Prop) (xs : List α) (T0 : List Nat) (W : World) : Prop :=
  ∀ (l : Nat) (J : List Nat → List α → World → Prop) (K : World → Prop), StabJ J → (∀ T pre w1, J T pre w1 → Inv w1) → StabK K → YieldS P l encs At xs J K →
    J T0 [] W → Calls P gf (#[.func (.yield l) #[] #[]] ++ lb) W fun e w' => (∃ v, e = .returned v) ∧ ((∃ T, J T xs w') ∨ K w')
/-- What such a call ends in. -/
def IterPost {α : Type} (J : List Nat → List α → World → Prop) (K : World → Prop) (xs : List α) (e : Ending) (w : World) : Prop := (∃ v, e = .returned v) ∧ ((∃ T, J T xs w) ∨ K w)
instance nop_iter {fn : Func} {α : Type} {J : List Nat → List α → World → Prop} {K : World → Prop} {xs : List α} : NoP (bodyPost P fn (IterPost J K xs)) := nop_post fun c w' h => by obtain ⟨⟨v, h⟩, _⟩ := h; cases h
theorem iter_done {α : Type} {J : List Nat → List α → World → Prop} {K : World → Prop} {xs : List α} {v : Value} {wb w : World} {T0 : List Nat} {M : List Ent} {S : List Fact} (hst : StabJ J) (hJ : J T0 xs wb) (h : Mem wb T0 M S w) : IterPost J K xs (.returned v) w :=
  ⟨⟨v, rfl⟩, .inl ⟨[], hst _ _ _ _ _ hJ (h.sub .nil .nil) (fun k hk => by cases hk)⟩⟩
theorem iter_stop {α : Type} {J : List Nat → List α → World → Prop} {K : World → Prop} {xs : List α} {v : Value} {wb w : World} {M : List Ent} {S : List Fact} (hst : StabK K) (hK : K wb) (h : Mem wb [] M S w) : IterPost J K xs (.returned v) w :=
  ⟨⟨v, rfl⟩, .inr (hst _ _ hK (h.sub .nil .nil))⟩

/-- How a round's body is left: off its end, or by a jump. -/
def RoundPostS (R' : World → Prop) (S' : Code → World → Prop) : Exit → Act → World → Prop
  | .normal, _, w => R' w
  | .ret, _, w => S' .ret w
  | .exit id, _, w => S' (.exit id) w
  | _, _, _ => False
instance nop_roundS {R' : World → Prop} {S' : Code → World → Prop} : NoP (RoundPostS R' S') := ⟨fun _ _ _ _ h => h.elim⟩
theorem ex_roundN {R' : World → Prop} {S' : Code → World → Prop} (h : ∀ w, R w → R' w) : EX (RoundPostS R' S') .normal n R L := fun a w hs hr => h w hr
theorem ex_roundR {R' : World → Prop} {S' : Code → World → Prop} (h : ∀ w, R w → S' .ret w) : EX (RoundPostS R' S') .ret n R L := fun a w hs hr => h w hr
theorem ex_roundE {R' : World → Prop} {S' : Code → World → Prop} {id : Nat} (h : ∀ w, R w → S' (.exit id) w) : EX (RoundPostS R' S') (.exit id) n R L := fun a w hs hr => h w hr

theorem nums_lt {w0 w : World} {Ln : List Nat} {M : List Ent} {S : List Fact} (h : Mem w0 Ln M S w) : ∀ k, k ∈ nums M → (k ∈ Ln ∨ w0.heap.size ≤ k) ∧ k < w.heap.size := fun k hk => by
  obtain ⟨e, he, hn⟩ := mem_nums.1 hk
  exact ⟨(h.new e he k hn).symm, Ent.lt (h.own e he) hn⟩
/-- What was owned is owned behind a call that kept it. -/
theorem Mem.again {w0 w w' : World} {Ln : List Nat} {M : List Ent} {S : List Fact} (h : Mem w0 Ln M S w) (hk : ∀ k, k ∈ nums M → w'.heap[k]? = w.heap[k]?) : Mem w' (nums M) M [] w' :=
  Mem.startL w' (fun e he => Ent.kept (h.own e he) fun k hn => hk k (mem_nums.2 ⟨e, he, hn⟩)) h.apart

/-- The two ways of a yield, as an index. -/
abbrev YI {α : Type} (J : List Nat → List α → World → Prop) (K : World → Prop) (T : List Nat) (pre : List α) (y : α) : Type := { u : World // J T (pre ++ [y]) u } ⊕ { u : World // K u }
def yiV {A B : Type} : A ⊕ B → Value
  | .inl _ => .bool true
  | .inr _ => .bool false
def yiR {p q : World → Prop} (M : List Ent) : { u : World // p u } ⊕ { u : World // q u } → World → Prop
  | .inl u => Mem u.1 (nums M) M []
  | .inr u => Mem u.1 [] [] []
theorem yield_at {l : Nat} {vs : List Value} {α ι : Type} {encs : α → ι → Array Value} {At : List Nat → α → ι → World → Prop} {xs : List α} {J : List Nat → List α → World → Prop} {K : World → Prop}
    {wb : World} {T0 : List Nat} {M : List Ent} {S : List Fact} {pre : List α} {y : α} {i : ι} (hst : StabJ J) (hy : YieldS P l encs At xs J K) (hJ : J T0 pre wb) (hpre : (pre ++ [y]) <+: xs) (he : encs y i = vs.toArray)
    {w : World} (hAt : At (nums M) y i w) (h : Mem wb T0 M S w) : YieldAt Fence.wide 0 P l vs.toArray w fun e w' => ∃ s : YI J K (nums M) pre y, e = .returned (yiV s) ∧ yiR M s w' := by
  have hJ' : J (nums M) pre w := hst _ _ _ _ _ hJ (h.sub .nil .nil) (nums_lt h)
  obtain ⟨fn, tmps, assign, body, hrun, hround⟩ := hy (nums M) pre y i w hJ' hpre hAt
  rw [he] at hrun
  refine ⟨fn, tmps, assign, body, hrun, hround.mono ?_⟩
  rintro e w' (⟨rfl, j1, j2, j3⟩ | ⟨rfl, hk⟩)
  · exact ⟨.inl ⟨w', j1⟩, rfl, h.again j3⟩
  · exact ⟨.inr ⟨w', hk⟩, rfl, Mem.start w'⟩
theorem wpIn_yieldOp {x : Operand} {args : Array Operand} {at_ : Array TypeId} {l : Nat} {vs : List Value} {ι : Type} {V : ι → Value} {R' : ι → World → Prop} {g : Option (Nat × Bool)} {a : Act} {w : World} {Kc : Act → World → Prop} (hs : Sl n a L) (hx : ev L x = some (.func (.yield l) #[] #[])) (hv : evs L args.toList = some vs)
    (hy : YieldAt Fence.wide 0 P l vs.toArray w fun e w' => ∃ i, e = .returned (V i) ∧ R' i w') (hK : ∀ i w', R' i w' → Kc (a.put (some d) (V i)) w') :
    Oper.wpIn Fence.wide 0 P ⟨some d, .call { callee := .value x, args := args, argTypes := at_ }, ty, pos, af, g⟩ a w Kc Q := by
  have hargs : args.map a.eval = vs.toArray := by
    have e : (args.map a.eval).toList = vs := by rw [Array.toList_map]; exact evs_eval hs hv
    rw [← e]
  obtain ⟨fn, tmps, assign, body, hrun, hround⟩ := hy
  refine ⟨fun f _ => trivial, ?_⟩
  have hrun' : (execOp a.eval ⟨some d, .call { callee := .value x, args := args, argTypes := at_ }, ty, pos, af, g⟩).run P w = .ok (.round l fn tmps assign body) w := by
    simp only [execOp, resolve, hs.eval hx, hargs]
    simp [Deferred.ofValue, invoke, hrun]
  have hsem : Oper.semAt Fence.wide.round a.eval ⟨some d, .call { callee := .value x, args := args, argTypes := at_ }, ty, pos, af, g⟩ = execOp a.eval ⟨some d, .call { callee := .value x, args := args, argTypes := at_ }, ty, pos, af, g⟩ := rfl
  rw [hsem, hrun']
  refine ⟨fun e => by simp [Fence.wide] at e, ?_⟩
  refine RoundIn.mono hround ?_
  rintro e w' ⟨i, rfl, h'⟩
  exact hK i w' h'
/-- A call of yield in an iterator's region. -/
theorem wil_yieldS {x : Operand} {args : Array Operand} {at_ : Array TypeId} {l : Nat} {vs : List Value} {α ι : Type} {encs : α → ι → Array Value} {At : List Nat → α → ι → World → Prop} {xs : List α} {J : List Nat → List α → World → Prop} {K : World → Prop}
    {wb : World} {T0 : List Nat} {M : List Ent} {S : List Fact} {pre : List α} (y : α) (i : ι)
    (hx : ev L x = some (.func (.yield l) #[] #[])) (hv : evs L args.toList = some vs) (hst : StabJ J) (hy : YieldS P l encs At xs J K) (hJ : J T0 pre wb) (hpre : (pre ++ [y]) <+: xs) (he : encs y i = vs.toArray)
    (hAt : ∀ w, Mem wb T0 M S w → At (nums M) y i w) (hd : Nat.blt d n.n = true)
    (ht : ∀ u, J (nums M) (pre ++ [y]) u → WPLI Fence.wide P ops Q n (Mem u (nums M) M []) ((d, .bool true) :: L) rest)
    (hf : ∀ u, K u → WPLI Fence.wide P ops Q n (Mem u [] [] []) ((d, .bool false) :: L) rest) :
    WPLI Fence.wide P ops Q n (Mem wb T0 M S) L (⟨some d, .call { callee := .value x, args := args, argTypes := at_ }, ty, pos, af, none⟩ :: rest) := by
  refine wpli_yield (l := l) (ι := YI J K (nums M) pre y) (V := yiV) (R' := yiR M) hx hv (fun w h => yield_at hst hy hJ hpre he (hAt w h) h) hd ?_
  rintro (u | u)
  · exact ht u.1 u.2
  · exact hf u.1 u.2
/-- The same where the region's order is open. -/
theorem wid_yieldS {x : Operand} {args : Array Operand} {at_ : Array TypeId} {l : Nat} {vs : List Value} {α ι : Type} {encs : α → ι → Array Value} {At : List Nat → α → ι → World → Prop} {xs : List α} {J : List Nat → List α → World → Prop} {K : World → Prop}
    {wb : World} {T0 : List Nat} {M : List Ent} {S : List Fact} {pre : List α} {k fuel : Nat} {R0 : World → Prop} {listed : Array Bool} {g : Option (Nat × Bool)} (j : Nat) (y : α) (i : ι)
    (hi : ops[j]? = some ⟨some d, .call { callee := .value x, args := args, argTypes := at_ }, ty, pos, af, g⟩) (hr : Region.ready .any ops listed = [j]) (hg : Wants ops L g)
    (hx : ev L x = some (.func (.yield l) #[] #[])) (hv : evs L args.toList = some vs) (hst : StabJ J) (hy : YieldS P l encs At xs J K) (hJ : J T0 pre wb) (hpre : (pre ++ [y]) <+: xs) (he : encs y i = vs.toArray)
    (hAt : ∀ w, Mem wb T0 M S w → At (nums M) y i w) (hd : Nat.blt d n.n = true) (hk : (listed.setIfInBounds j true).getD k false = true)
    (ht : ∀ u, J (nums M) (pre ++ [y]) u → WPDI Fence.wide P ops Q n k R0 (Mem u (nums M) M []) ((d, .bool true) :: L) fuel (listed.setIfInBounds j true))
    (hf : ∀ u, K u → WPDI Fence.wide P ops Q n k R0 (Mem u [] [] []) ((d, .bool false) :: L) fuel (listed.setIfInBounds j true)) :
    WPDI Fence.wide P ops Q n k R0 (Mem wb T0 M S) L (fuel + 1) listed := by
  refine wid_one j hr fun a w hs h => ?_
  unfold wpOpIn
  simp only [hi, hg.spec hs, if_true]
  refine wpIn_yieldOp (V := yiV) (R' := yiR M) hs hx hv (yield_at hst hy hJ hpre he (hAt w h) h) ?_
  rintro (u | u) w' hr'
  · exact ⟨.inl hk, ht u.1 u.2 _ _ (hs.put hd _) hr'⟩
  · exact ⟨.inl hk, hf u.1 u.2 _ _ (hs.put hd _) hr'⟩
theorem wpc_draw_y {id : Nat} {l : List Oper} (k : Nat) (hm : P.follows .mixedOrders = true) (hdr : ∀ w : World, R w → R { w with drawn := w.drawn + 1 })
    (h : WPDI Fence.wide P l.toArray Q n k R R L l.length (Array.replicate l.length false)) : WPC P Q n R L (.region id l.toArray true) := fun a w hs hr => (wpIn_wide (n := 0)).1 (wic_draw k hm hdr h a w hs hr)
end

section
variable {w0 w : World} {Ln : List Nat} {M : List Ent} {S : List Fact}
theorem inM_perm {M M' : List Ent} (hp : M.Perm M') (k : Nat) : inM M' k = inM M k := by
  rw [Bool.eq_iff_iff, inM_iff, inM_iff]
  exact ⟨fun ⟨e, he, hn⟩ => ⟨e, hp.mem_iff.2 he, hn⟩, fun ⟨e, he, hn⟩ => ⟨e, hp.mem_iff.1 he, hn⟩⟩
theorem Mem.perm {M' : List Ent} (h : Mem w0 Ln M S w) (hp : M.Perm M') : Mem w0 Ln M' S w := by
  refine ⟨h.os, h.tape, h.output, h.size, h.old, fun e he => h.own e (hp.mem_iff.2 he), fun e he => h.new e (hp.mem_iff.2 he), ?_, fun s hs => s.mono _ _ (fun a v hv => ?_) (h.facts s hs)⟩
  · exact (List.Perm.pairwise_iff (fun {x y} hxy k hk hk2 => hxy k hk2 hk) hp).1 h.apart
  · simp only [rdF] at hv ⊢
    rw [inM_perm hp]; exact hv
/-- What was made beside what is owned. -/
theorem Mem.beside {w' : World} {N : List Ent} {T : List Fact} (h : Mem w0 Ln M S w) (h2 : Mem w [] N T w') : Mem w0 Ln (N ++ M) S w' := by
  have := h.call h2.below (h2.made (Sub.refl _) .nil)
  exact this
end
theorem sub_app {α : Type} : ∀ (a b : List α), Sub b (a ++ b)
  | [], b => Sub.refl b
  | x :: a, b => .drop (sub_app a b)
/-- **'for x := range g { .. }'**, the body left as it likes: E0 is what the iterator writes, M s what the loop owns. -/
theorem wpc_rangeS {P : Program} {Q : Exit → Act → World → Prop} {gx : Operand} {ps : Array Tmp} {assign body : Code} {k : Nat} {L : Slots} {w0 : World} {Ln : List Nat} {S : List Fact} {α ι ρ σ β : Type} {gf : FuncId} {lb : Array Value}
    {encs : α → ι → Array Value} {At : List Nat → α → ι → World → Prop} {Inv : World → Prop} {xs : List α} (E0 : List Ent) (M : σ → List Ent) (g : List α → σ → Prop) (s0 : σ) (pr : ρ → Prop) (cd : ρ → Code) (Mr : ρ → List Ent) (Ma : α → ι → β → List Ent) (L1 : α → ι → β → Slots)
    (hg : ev L gx = some (.func (.func gf) #[] lb)) (hbd : HasBody P gf) (h0 : g [] s0)
    (hE0 : ∀ w, Mem w0 Ln (E0 ++ M s0) S w → ∀ k, k ∈ nums E0 → w0.heap.size ≤ k)
    (hit : ∀ w, Mem w0 Ln (E0 ++ M s0) S w → IterStop P gf lb encs At Inv xs (nums E0) w) (hInv : ∀ pre s w, g pre s → Mem w0 Ln (M s) [] w → Inv w)
    (hAt : ∀ T x i w w', At T x i w → (∀ j, j ∈ T → w'.heap[j]? = w.heap[j]?) → At T x i w')
    (hps : ∀ x i, (encs x i).size = ps.size) (hpk : ∀ p ∈ ps.toList, p < k)
    (hassign : ∀ (l : Nat) (x : α) (i : ι) (w1 : World) (K : Act → World → Prop), (∀ b a w, Sl ⟨k, []⟩ a (L1 x i b) → Mem w1 [] (Ma x i b) [] w → K a w) →
      WPCI (Fence.wide.inRound l) P (Exit.then K (fun _ _ _ => False)) ⟨k, []⟩ (Mem w1 [] [] []) (addSlots ps.toList (encs x i).toList L) assign)
    (hbody : ∀ (l : Nat) (pre : List α) (x : α) (i : ι) (s : σ) (b : β) (w1 : World) (T : List Nat), g pre s → (pre ++ [x]) <+: xs → Mem w0 Ln (Ma x i b ++ M s) [] w1 → At T x i w1 → (∀ j, j ∈ T → w0.heap.size ≤ j ∧ inM (Ma x i b ++ M s) j = false) →
      WPCI (Fence.wide.inRound l) P (RoundPostS (fun w' => ∃ s', g (pre ++ [x]) s' ∧ Mem w1 (nums (Ma x i b ++ M s)) (M s') [] w') (fun c w' => ∃ r, pr r ∧ cd r = c ∧ Mem w1 (nums (Ma x i b ++ M s)) (Mr r) [] w')) ⟨k, []⟩ (Mem w1 (nums (Ma x i b ++ M s)) (Ma x i b ++ M s) []) (L1 x i b) body)
    (hdone : ∀ D s, g xs s → EX Q .normal ⟨k, [mark D]⟩ (Mem w0 Ln (.obj D (.deferred (some [])) :: M s) []) L)
    (hstop : ∀ D r, pr r → WPC P Q ⟨k, [mark D]⟩ (Mem w0 Ln (.obj D (.deferred (some [])) :: Mr r) []) L (cd r)) :
    WPC P Q ⟨k, []⟩ (Mem w0 Ln (E0 ++ M s0) S) L (.rangeFunc gx ps assign body) := by
  intro a w hs hr
  refine (wpIn_wide (n := 0)).1 (wpIn_rangeFunc ?_)
  intro fn hfn
  obtain ⟨rec, hrec⟩ : ∃ rec : LoopState → Option Code → Loop, rec = fun st pe => { state := st, pending := pe, fn, tmps := a.tmps, params := ps, assign, body, defers := w.heap.size } := ⟨_, rfl⟩
  obtain ⟨W1, hW1⟩ : ∃ W1, (w.alloc (.deferred (some []))).alloc (.loop (rec .ready none)) = W1 := ⟨_, rfl⟩
  have hM1 : Mem w0 Ln (.obj (w.heap.size + 1) (.loop (rec .ready none)) :: .obj w.heap.size (.deferred (some [])) :: (E0 ++ M s0)) S W1 := by
    have := (hr.allocO (.deferred (some []))).allocO (.loop (rec .ready none))
    rw [World.size_alloc] at this
    rw [← hW1]; exact this
  have hsz1 : W1.heap.size = w.heap.size + 2 := by rw [← hW1]; simp
  have hw0 := hr.size
  have hr1 : Mem w0 Ln (E0 ++ M s0) S W1 := hM1.sub (.drop (.drop (Sub.refl _))) (Sub.refl _)
  refine ⟨w.heap.size + 1, [mark w.heap.size], W1, { target := .fn (.func gf) lb, args := #[.func (.yield (w.heap.size + 1)) #[] #[]] }, W1, gf, #[.func (.yield (w.heap.size + 1)) #[] #[]] ++ lb, W1, ?_, ?_, fun _ _ => trivial, ?_, fun e => by simp [Fence.wide] at e, ?_⟩
  · rw [← hW1, hrec]; exact run_enterLoop_outer _ _ _ _ _
  · simp only [resolve, rangeCall, hs.eval hg]
    simp [go_sem]
  · simp [invoke, run_callFunc hbd]
  · refine callsIn_wide.2 ?_
    let J : List Nat → List α → World → Prop := fun T pre w' => ∃ s, g pre s ∧ Mem w0 Ln (.obj (w.heap.size + 1) (.loop (rec .ready none)) :: .obj w.heap.size (.deferred (some [])) :: M s) [] w' ∧ W1.heap.size ≤ w'.heap.size ∧
      ∀ j, j ∈ T → w0.heap.size ≤ j ∧ j ≠ w.heap.size ∧ j ≠ w.heap.size + 1 ∧ inM (M s) j = false ∧ j < w'.heap.size
    let Kx : World → Prop := fun w' => ∃ r, pr r ∧ Mem w0 Ln (.obj (w.heap.size + 1) (.loop (rec .done (some (cd r)))) :: .obj w.heap.size (.deferred (some [])) :: Mr r) [] w'
    have hJ0 : J (nums E0) [] W1 := by
      refine ⟨s0, h0, hM1.sub (.keep (.keep (sub_app _ _))) .nil, Nat.le_refl _, fun j hj => ?_⟩
      obtain ⟨e, he, hn⟩ := mem_nums.1 hj
      have hlt := Ent.lt (hr.own e (List.mem_append_left _ he)) hn
      refine ⟨hE0 w hr j hj, by omega, by omega, ?_, by omega⟩
      cases hm : inM (M s0) j
      · rfl
      · obtain ⟨f, hf, hfn⟩ := inM_iff.1 hm
        exact absurd hfn ((List.pairwise_append.1 hr.apart).2.2 e he f hf j hn)
    refine (hit W1 hr1 (w.heap.size + 1) J Kx ?_ ?_ ?_ ?_ hJ0).mono ?_
    · rintro T T' pre w1 w2 ⟨s, hgs, j1, j2, j3⟩ hc hT
      have hnot : ∀ j, j ∈ T → w0.heap.size ≤ j ∧ inM (.obj (w.heap.size + 1) (.loop (rec .ready none)) :: .obj w.heap.size (.deferred (some [])) :: M s) j = false := fun j hj => by
        obtain ⟨a1, a2, a3, a4, _⟩ := j3 j hj
        refine ⟨a1, ?_⟩
        simp only [inM, List.any_cons, Bool.or_eq_false_iff, Ent.num]
        refine ⟨by simp; omega, by simp; omega, a4⟩
      refine ⟨s, hgs, j1.chg hc hnot, Nat.le_trans j2 hc.size, fun j hj => ?_⟩
      obtain ⟨h1, h2⟩ := hT j hj
      rcases h1 with h1 | h1
      · obtain ⟨a1, a2, a3, a4, _⟩ := j3 j h1
        exact ⟨a1, a2, a3, a4, h2⟩
      · refine ⟨by omega, by omega, by omega, ?_, h2⟩
        cases hm : inM (M s) j
        · rfl
        · obtain ⟨e, he, hn⟩ := inM_iff.1 hm
          have := Ent.lt (j1.own e (List.mem_cons_of_mem _ (List.mem_cons_of_mem _ he))) hn
          omega
    · rintro T pre w1 ⟨s, hgs, j1, _⟩
      exact hInv pre s w1 hgs (j1.sub (.drop (.drop (Sub.refl _))) .nil)
    · rintro w1 w2 ⟨r, hp, hk⟩ hc
      exact ⟨r, hp, hk.chg hc (fun _ h => by cases h)⟩
    · rintro T pre x i w1 ⟨s, hgs, j1, j2, j3⟩ hpre hat
      have hl : w1.heap[w.heap.size + 1]? = some (.loop (rec .ready none)) := j1.own _ (List.mem_cons_self ..)
      have hy := run_yield (P := P) (args := encs x i) hl (by rw [hrec]; exact hps x i)
      rw [hrec] at hy
      refine ⟨fn, _, assign, body, hy, roundIn_of_wpIn hfn ?_⟩
      have hsl : Sl ⟨k, []⟩ { tmps := ((ps.zip (encs x i)).foldl (fun t (p, v) => t.setIfInBounds p v) a.tmps), defers := [] } (addSlots ps.toList (encs x i).toList L) := by
        have hs0 : Sl ⟨k, []⟩ { tmps := a.tmps, defers := [] } L := ⟨hs.size, rfl, hs.tmp⟩
        have := sl_adds ps.toList (encs x i).toList L a.tmps k (by simpa using (hps x i).symm) hpk hs0
        rw [← Array.foldl_toList, Array.toList_zip]
        exact this
      refine hassign (w.heap.size + 1) x i w1 _ (fun b a1 wa hs1 hwa => ?_) _ w1 hsl (Mem.start w1)
      have jA := j1.beside hwa
      have hla : wa.heap[w.heap.size + 1]? = some (.loop (rec .ready none)) := jA.own _ (List.mem_append_right _ (List.mem_cons_self ..))
      have jA2 : Mem w0 Ln (.obj (w.heap.size + 1) (.loop (rec .ready none)) :: .obj w.heap.size (.deferred (some [])) :: (Ma x i b ++ M s)) [] wa :=
        jA.perm (List.perm_middle.trans (.cons _ List.perm_middle))
      obtain ⟨w2, hw2⟩ : ∃ w2, wa.putObj (w.heap.size + 1) (.loop { rec .ready none with state := .busy }) = w2 := ⟨_, rfl⟩
      have j4 : Mem w0 Ln ([.obj (w.heap.size + 1) (.loop { rec .ready none with state := .busy }), .obj w.heap.size (.deferred (some []))] ++ (Ma x i b ++ M s)) [] w2 := by
        rw [← hw2]; exact jA2.putO .here
      have hbr : (Instr.beginRound (w.heap.size + 1)).run P wa = .ok () w2 := by rw [← hw2]; exact run_beginRound hla (by rw [hrec])
      have hm2 : Mem w0 Ln (Ma x i b ++ M s) [] w2 := j4.sub (.drop (.drop (Sub.refl _))) .nil
      have hsa := hwa.size
      have hs2 : w2.heap.size = wa.heap.size := by rw [← hw2]; simp
      have hT2 : ∀ j, j ∈ T → w2.heap[j]? = w1.heap[j]? := fun j hj => by
        rw [← hw2, World.putObj_heap_other (j3 j hj).2.2.1]
        exact hwa.old j (j3 j hj).2.2.2.2 (by simp)
      have hTM : ∀ j, j ∈ T → inM (Ma x i b ++ M s) j = false := fun j hj => by
        rw [inM_append, Bool.or_eq_false_iff]
        refine ⟨?_, (j3 j hj).2.2.2.1⟩
        cases hm : inM (Ma x i b) j
        · rfl
        · obtain ⟨e, he, hn⟩ := inM_iff.1 hm
          have h1 := (hwa.new e he j hn).resolve_right (by simp)
          have := (j3 j hj).2.2.2.2
          omega
      have hbd2 := hbody (w.heap.size + 1) pre x i s b w2 T hgs hpre hm2 (hAt T x i w1 w2 hat hT2) (fun j hj => ⟨(j3 j hj).1, hTM j hj⟩)
      refine ⟨w2, hbr, wpIn_mono (hbd2 a1 w2 hs1 (by have := hm2.base; exact this)) ?_⟩
      have stop : ∀ (c : Code) (w3 : World), (∃ r, pr r ∧ cd r = c ∧ Mem w2 (nums (Ma x i b ++ M s)) (Mr r) [] w3) → (Instr.endRound (w.heap.size + 1) (some c)).run P w3 = .ok (.bool false) (w3.putObj (w.heap.size + 1) (.loop (rec .done (some c)))) ∧ Kx (w3.putObj (w.heap.size + 1) (.loop (rec .done (some c)))) := by
        rintro c w3 ⟨r, hp, rfl, hm3⟩
        have j5 := j4.framed hm3
        have hl3 : w3.heap[w.heap.size + 1]? = some (.loop { rec .ready none with state := .busy }) := j5.own _ (List.mem_cons_self ..)
        have hend := run_endRound (P := P) (some (cd r)) hl3
        rw [hrec] at hend
        refine ⟨?_, r, hp, j5.putO .here⟩
        rw [hrec]; exact hend
      rintro e a3 w3 hp
      cases e with
      | normal =>
        obtain ⟨s', hgs', hp'⟩ : ∃ s', g (pre ++ [x]) s' ∧ Mem w2 (nums (Ma x i b ++ M s)) (M s') [] w3 := hp
        have j5 := j4.framed hp'
        have hl3 : w3.heap[w.heap.size + 1]? = some (.loop { rec .ready none with state := .busy }) := j5.own _ (List.mem_cons_self ..)
        have hend := run_endRound (P := P) none hl3
        have hback : { { rec .ready none with state := .busy } with state := if (none : Option Code).isNone then .ready else .done, pending := none } = rec .ready none := by rw [hrec]; rfl
        rw [hback] at hend
        have hnT : ∀ j, j ∈ T → j ∉ nums (Ma x i b ++ M s) := fun j hj hm => by
          obtain ⟨e, he, hn⟩ := mem_nums.1 hm
          exact inM_not (hTM j hj) e he hn
        have hTs : ∀ j, j ∈ T → (w3.putObj (w.heap.size + 1) (.loop (rec .ready none))).heap[j]? = w1.heap[j]? := fun j hj => by
          rw [World.putObj_heap_other (j3 j hj).2.2.1, hp'.old j (by have := (j3 j hj).2.2.2.2; omega) (hnT j hj)]
          exact hT2 j hj
        have hsz3 := hp'.size
        refine ⟨_, _, hend, .inl ⟨rfl, ⟨s', hgs', ?_, ?_, fun j hj => ⟨(j3 j hj).1, (j3 j hj).2.1, (j3 j hj).2.2.1, ?_, ?_⟩⟩, by rw [World.putObj_size]; omega, hTs⟩⟩
        · exact j5.putO .here
        · rw [World.putObj_size]; omega
        · cases hm : inM (M s') j
          · rfl
          · obtain ⟨e, he, hn⟩ := inM_iff.1 hm
            rcases hp'.new e he j hn with h | h
            · have := (j3 j hj).2.2.2.2; omega
            · exact absurd h (hnT j hj)
        · rw [World.putObj_size]; have := (j3 j hj).2.2.2.2; omega
      | ret =>
        obtain ⟨h1, h2⟩ := stop .ret w3 hp
        exact ⟨_, _, h1, .inr ⟨rfl, h2⟩⟩
      | exit id =>
        obtain ⟨h1, h2⟩ := stop (.exit id) w3 hp
        exact ⟨_, _, h1, .inr ⟨rfl, h2⟩⟩
      | goto t => exact (hp : False).elim
      | panic ch => exact (hp : False).elim
      | outgrown => exact (hp : False).elim
    · rintro e w2 ⟨⟨v, rfl⟩, (⟨T, s, hgs, j1, j2, j3⟩ | ⟨r, hp, hk⟩)⟩
      · have hl : w2.heap[w.heap.size + 1]? = some (.loop (rec .ready none)) := j1.own _ (List.mem_cons_self ..)
        have hend := run_endLoop (P := P) hl (by rw [hrec]; simp)
        have hpn : (rec .ready none).pending = none := by rw [hrec]
        rw [hpn] at hend
        refine ⟨none, _, hend, ?_⟩
        have hd : a.defers = [] := hs.defers
        refine hdone w.heap.size s hgs _ _ ⟨hs.size, by simp [hd], hs.tmp⟩ ?_
        exact (j1.putO .here).sub (.drop (Sub.refl _)) .nil
      · have hl : w2.heap[w.heap.size + 1]? = some (.loop (rec .done (some (cd r)))) := hk.own _ (List.mem_cons_self ..)
        have hend := run_endLoop (P := P) hl (by rw [hrec]; simp)
        have hpn : (rec .done (some (cd r))).pending = some (cd r) := by rw [hrec]
        rw [hpn] at hend
        refine ⟨some (cd r), _, hend, ?_⟩
        have hd : a.defers = [] := hs.defers
        refine (wpIn_wide (n := 0)).2 (hstop w.heap.size r hp _ _ ⟨hs.size, by simp [hd], hs.tmp⟩ ?_)
        exact (hk.putO .here).sub (.drop (Sub.refl _)) .nil
/-- No panic is let out. -/
def NPQ (Q : Exit → Act → World → Prop) : Exit → Act → World → Prop
  | .panic _, _, _ => False
  | e, a, w => Q e a w
instance nop_np {Q : Exit → Act → World → Prop} : NoP (NPQ Q) := ⟨fun _ _ _ _ h => h.elim⟩
theorem wpc_np {P : Program} {Q : Exit → Act → World → Prop} {n : Cx} {R : World → Prop} {L : Slots} {c : Code} (h : WPC P (NPQ Q) n R L c) : WPC P Q n R L c := fun a w hs hr =>
  (wpIn_wide (n := 0)).1 (wpIn_mono ((wpIn_wide (n := 0)).2 (h a w hs hr)) (fun e a w hq => by cases e <;> first | exact hq | exact hq.elim))
/-- A function that holds a range over a function, and lets no panic out. -/
theorem enterN {P : Program} {R : World → Prop} {f : FuncId} {fn : Func} {c : Code} {args : List Value} {w0 : World} {post : Ending → World → Prop}
    (hf : P.funcs[f]? = some fn) (hb : fn.body = some c) {m : Nat} (hn : fn.ntmps = m) (hna : args.length ≤ m) (h0 : R w0)
    (h : WPC P (NPQ (bodyPostM Fence.wide 0 P fn post)) ⟨m, []⟩ R (argSlots 0 args) c) : Calls P f args.toArray w0 post := enterM hf hb hn hna h0 (wpc_np h)
theorem ex_markN {P : Program} {fn : Func} {post : Ending → World → Prop} {m D : Nat} {e : Exit} {L : Slots} {w0 : World} {Ln : List Nat} {M M' : List Ent} {S : List Fact} (he : e = .ret ∨ e = .normal) (hr : Repl M (.obj D (.deferred (some []))) (.obj D (.deferred none)) M')
    (h : EX (bodyPost P fn post) e ⟨m, []⟩ (Mem w0 Ln M' S) L) : EX (NPQ (bodyPostM Fence.wide 0 P fn post)) e ⟨m, [mark D]⟩ (Mem w0 Ln M S) L := fun a w hs hr' => by
  have := ex_mark he hr h a w hs hr'
  rcases he with rfl | rfl <;> exact this
end Go.PL
