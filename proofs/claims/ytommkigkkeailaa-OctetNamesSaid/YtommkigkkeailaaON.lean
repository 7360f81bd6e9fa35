/- Iterators that range over iterators. -/
import Derived.Test.YtommkigkkeailaaOL
import Derived.Test.YtommkigkkeailaaOO
namespace Go.Proofs.Ytommkigkkeailaa
set_option linter.unusedSimpArgs false
set_option linter.unusedVariables false
open Go Go.PL Go.RowKit

def StabT (K : List Nat → World → Prop) : Prop := ∀ T T' w1 w2, K T w1 → Mem w1 T [] [] w2 → (∀ k, k ∈ T' → (k ∈ T ∨ w1.heap.size ≤ k) ∧ k < w2.heap.size) → K T' w2
def YieldN (P : Program) (l : Nat) {α ι : Type} (encs : α → ι → Array Value) (xs : List α) (J : List Nat → List α → World → Prop) (K : List Nat → World → Prop) : Prop :=
  ∀ T pre x i w1, J T pre w1 → (pre ++ [x]) <+: xs → YieldAt Fence.wide 0 P l (encs x i) w1 fun e w' =>
    ((e = .returned (.bool true) ∧ J T (pre ++ [x]) w') ∨ (e = .returned (.bool false) ∧ K T w')) ∧ ∀ k, k ∈ T → w'.heap[k]? = w1.heap[k]?
def IterPostN {α : Type} (J : List Nat → List α → World → Prop) (K : List Nat → World → Prop) (xs : List α) (e : Ending) (w : World) : Prop := (∃ v, e = .returned v) ∧ ((∃ T, J T xs w) ∨ ∃ T, K T w)
/-- An iterator that may be stopped, and that may range over others. -/
def IterN (P : Program) (gf : FuncId) (lb : Array Value) {α ι : Type} (encs : α → ι → Array Value) (Inv : World → Prop) (xs : List α) (T0 : List Nat) (W : World) : Prop :=
  ∀ (l : Nat) (J : List Nat → List α → World → Prop) (K : List Nat → World → Prop), StabJ J → (∀ T pre w1, J T pre w1 → Inv w1) → StabT K → YieldN P l encs xs J K →
    J T0 [] W → Calls P gf (#[.func (.yield l) #[] #[]] ++ lb) W (IterPostN J K xs)
instance nop_iterN {P : Program} {fn : Func} {α : Type} {J : List Nat → List α → World → Prop} {K : List Nat → World → Prop} {xs : List α} : NoP (bodyPost P fn (IterPostN J K xs)) := nop_post fun c w' h => by obtain ⟨⟨v, h⟩, _⟩ := h; cases h
theorem iter_doneN {α : Type} {J : List Nat → List α → World → Prop} {K : List Nat → World → Prop} {xs : List α} {v : Value} {wb w : World} {T0 : List Nat} {M : List Ent} {S : List Fact} (hst : StabJ J) (hJ : J T0 xs wb) (h : Mem wb T0 M S w) : IterPostN J K xs (.returned v) w :=
  ⟨⟨v, rfl⟩, .inl ⟨[], hst _ _ _ _ _ hJ (h.sub .nil .nil) (fun k hk => by cases hk)⟩⟩
theorem iter_stopN {α : Type} {J : List Nat → List α → World → Prop} {K : List Nat → World → Prop} {xs : List α} {v : Value} {wb w : World} {T0 : List Nat} {M : List Ent} {S : List Fact} (hsk : StabT K) (hK : K T0 wb) (h : Mem wb T0 M S w) : IterPostN J K xs (.returned v) w :=
  ⟨⟨v, rfl⟩, .inr ⟨[], hsk _ _ _ _ hK (h.sub .nil .nil) (fun k hk => by cases hk)⟩⟩
/-- Others' blocks as they are. -/
theorem asEnts (w : World) : ∀ (T : List Nat), (∀ j ∈ T, j < w.heap.size) → ∃ TE : List Ent, (∀ e ∈ TE, ∃ j o, e = .obj j o ∧ j ∈ T ∧ w.heap[j]? = some o) ∧ (∀ j ∈ T, ∃ o, Ent.obj j o ∈ TE) ∧ TE.Pairwise fun e f => ∀ k, e.num = some k → f.num ≠ some k
  | [], _ => ⟨[], fun e he => (by cases he), fun j hj => (by cases hj), .nil⟩
  | j :: T, h => by
    obtain ⟨TE, h1, h2, h3⟩ := asEnts w T fun k hk => h k (List.mem_cons_of_mem _ hk)
    by_cases hj : j ∈ T
    · refine ⟨TE, fun e he => ?_, fun k hk => ?_, h3⟩
      · obtain ⟨a, o, e1, e2, e3⟩ := h1 e he
        exact ⟨a, o, e1, List.mem_cons_of_mem _ e2, e3⟩
      · rcases List.mem_cons.1 hk with rfl | hk
        · exact h2 _ hj
        · exact h2 _ hk
    · have hlt := h j (List.mem_cons_self ..)
      refine ⟨.obj j (w.heap[j]) :: TE, fun e he => ?_, fun k hk => ?_, List.pairwise_cons.2 ⟨fun f hf k hk hfk => ?_, h3⟩⟩
      · rcases List.mem_cons.1 he with rfl | he
        · exact ⟨j, _, rfl, List.mem_cons_self .., Array.getElem?_eq_getElem hlt⟩
        · obtain ⟨a, o, e1, e2, e3⟩ := h1 e he
          exact ⟨a, o, e1, List.mem_cons_of_mem _ e2, e3⟩
      · rcases List.mem_cons.1 hk with rfl | hk
        · exact ⟨_, List.mem_cons_self ..⟩
        · obtain ⟨o, ho⟩ := h2 k hk
          exact ⟨o, List.mem_cons_of_mem _ ho⟩
      · obtain ⟨a, o, rfl, e2, _⟩ := h1 f hf
        cases hk; cases hfk
        exact hj e2
def Nest (B : List Nat → World → Prop) (MM : List Ent) (T : List Nat) (w : World) : Prop := B (nums MM ++ T) w ∧ Mem w (nums MM) MM [] w ∧ ∀ j ∈ T, inM MM j = false ∧ j < w.heap.size
theorem nest_stab {B : List Nat → World → Prop} (hB : StabT B) (MM : List Ent) : StabT (Nest B MM) := by
  rintro T T' w1 w2 ⟨j1, j2, j3⟩ hc hT
  have hlt : ∀ k, k ∈ nums MM → k < w1.heap.size := fun k hk => (nums_lt j2 k hk).2
  have hkeep : ∀ k, k ∈ nums MM → w2.heap[k]? = w1.heap[k]? := fun k hk => hc.old k (hlt k hk) fun hm => by
    obtain ⟨e, he, hn⟩ := mem_nums.1 hk
    exact inM_not (j3 k hm).1 e he hn
  refine ⟨hB _ _ _ _ j1 (hc.lend fun k hk => List.mem_append_right _ hk) fun k hk => ?_, j2.again hkeep, fun j hj => ?_⟩
  · rcases List.mem_append.1 hk with hk | hk
    · exact ⟨.inl (List.mem_append_left _ hk), Nat.lt_of_lt_of_le (hlt k hk) hc.size⟩
    · obtain ⟨h1, h2⟩ := hT k hk
      exact ⟨h1.imp (fun h => List.mem_append_right _ h) id, h2⟩
  · obtain ⟨h1, h2⟩ := hT j hj
    refine ⟨?_, h2⟩
    rcases h1 with h1 | h1
    · exact (j3 j h1).1
    · cases hm : inM MM j
      · rfl
      · obtain ⟨e, he, hn⟩ := inM_iff.1 hm
        have := hlt j (mem_nums.2 ⟨e, he, hn⟩)
        omega
theorem stabJ_T {α : Type} {J : List Nat → List α → World → Prop} (h : StabJ J) (pre : List α) : StabT (fun T w => J T pre w) := fun T T' w1 w2 h1 hc hT => h T T' pre w1 w2 h1 hc hT
/-- Behind a round: the record is turned, what was owned is owned, the others' blocks are as they were. -/
theorem nest_back {B : List Nat → World → Prop} (hB : StabT B) {M TE : List Ent} {T T3 : List Nat} {l D : Nat} {o o' od : Obj} {u w2 w3 : World} (h1 : ∀ e ∈ TE, ∃ j o, e = .obj j o ∧ j ∈ T ∧ w2.heap[j]? = some o) (h2 : ∀ j ∈ T, ∃ o, Ent.obj j o ∈ TE)
    (hb : B T3 u) (hm : Mem u T3 (M ++ ([.obj l o, .obj D od] ++ TE)) [] w3) : Nest B ([.obj l o', .obj D od] ++ M) T (w3.putObj l o') ∧ ∀ j ∈ T, (w3.putObj l o').heap[j]? = w2.heap[j]? := by
  have hp1 : Mem u T3 (.obj l o :: .obj D od :: (M ++ TE)) [] w3 := hm.perm (by
    have q := List.perm_append_comm_assoc M [Ent.obj l o, Ent.obj D od] TE
    exact q)
  have hp2 : Mem u T3 (([.obj l o', .obj D od] ++ M) ++ TE) [] (w3.putObj l o') := hp1.putO .here
  have hp3 := List.pairwise_append.1 hp2.apart
  have hin : ∀ j ∈ T, ∃ ob, Ent.obj j ob ∈ TE ∧ (w3.putObj l o').heap[j]? = some ob ∧ w2.heap[j]? = some ob := fun j hj => by
    obtain ⟨ob, ho⟩ := h2 j hj
    obtain ⟨j', o2, e1, _, e3⟩ := h1 _ ho
    cases e1
    exact ⟨ob, ho, hp2.own _ (List.mem_append_right _ ho), e3⟩
  refine ⟨⟨hB _ _ _ _ hb (hp2.sub .nil .nil) fun k hk => nums_lt hp2 k ?_, Mem.startL _ (fun e he => hp2.own e (List.mem_append_left _ he)) hp3.1, fun j hj => ?_⟩, fun j hj => ?_⟩
  · rcases List.mem_append.1 hk with hk | hk
    · obtain ⟨e, he, hn⟩ := mem_nums.1 hk
      exact mem_nums.2 ⟨e, List.mem_append_left _ he, hn⟩
    · obtain ⟨ob, ho, _⟩ := hin k hk
      exact mem_nums.2 ⟨_, List.mem_append_right _ ho, rfl⟩
  · obtain ⟨ob, ho, h3, _⟩ := hin j hj
    refine ⟨?_, (Array.getElem?_eq_some_iff.1 h3).1⟩
    cases hm : inM ([.obj l o', .obj D od] ++ M) j
    · rfl
    · obtain ⟨e, he, hn⟩ := inM_iff.1 hm
      exact absurd rfl (hp3.2.2 e he _ ho j hn)
  · obtain ⟨ob, _, h3, h4⟩ := hin j hj
    rw [h3, h4]


class FR (F : Fence) : Prop where
  depth : F.depth = none
  fn : ∀ f, F.fn f
  round : ∀ {P : Program} {l : Nat} {f : FuncId} {tmps : Array Value} {assign body : Code} {w : World} {R : Ending → World → Prop}, RoundIn Fence.wide 0 P l f tmps assign body w R → RoundIn F 0 P l f tmps assign body w R
instance fr_wide : FR Fence.wide := ⟨rfl, fun _ => trivial, id⟩
instance fr_round {l : Nat} : FR (Fence.wide.inRound l) := ⟨rfl, fun _ => trivial, fun h => h⟩
section
variable {F : Fence} {P : Program} {n : Cx} {R : World → Prop} {L : Slots} {Q : Exit → Act → World → Prop} {ops : Array Oper} {rest : List Oper} {op : Op} {ty : TypeId} {pos : String} {af : Array Edge} {d : Tmp}
def yiN {p q : World → Prop} (M : List Ent) : { u : World // p u } ⊕ { u : World // q u } → World → Prop
  | .inl u => Mem u.1 (nums M) M []
  | .inr u => Mem u.1 (nums M) M []
theorem wil_yieldN [hF : FR F] {x : Operand} {args : Array Operand} {at_ : Array TypeId} {l : Nat} {vs : List Value} {α ι : Type} {encs : α → ι → Array Value} {xs : List α} {J : List Nat → List α → World → Prop} {K : List Nat → World → Prop}
    {wb : World} {T0 : List Nat} {M : List Ent} {S : List Fact} {pre : List α} (y : α) (i : ι)
    (hx : ev L x = some (.func (.yield l) #[] #[])) (hv : evs L args.toList = some vs) (hst : StabJ J) (hy : YieldN P l encs xs J K) (hJ : J T0 pre wb) (hpre : (pre ++ [y]) <+: xs) (he : encs y i = vs.toArray) (hd : Nat.blt d n.n = true)
    (ht : ∀ u, J (nums M) (pre ++ [y]) u → WPLI F P ops Q n (Mem u (nums M) M []) ((d, .bool true) :: L) rest)
    (hf : ∀ u, K (nums M) u → WPLI F P ops Q n (Mem u (nums M) M []) ((d, .bool false) :: L) rest) :
    WPLI F P ops Q n (Mem wb T0 M S) L (⟨some d, .call { callee := .value x, args := args, argTypes := at_ }, ty, pos, af, none⟩ :: rest) := by
  intro a w hs h
  have hargs : args.map a.eval = vs.toArray := by
    have e : (args.map a.eval).toList = vs := by rw [Array.toList_map]; exact evs_eval hs hv
    rw [← e]
  have hJ' : J (nums M) pre w := hst _ _ _ _ _ hJ (h.sub .nil .nil) (nums_lt h)
  obtain ⟨fn, tmps, assign, body, hrun, hround⟩ := hy (nums M) pre y i w hJ' hpre
  rw [he] at hrun
  unfold wpListIn
  simp only [Region.wanted, if_true]
  refine ⟨fun f _ => hF.fn f, ?_⟩
  have hrun' : (execOp a.eval ⟨some d, .call { callee := .value x, args := args, argTypes := at_ }, ty, pos, af, none⟩).run P w = .ok (.round l fn tmps assign body) w := by
    simp only [execOp, resolve, hs.eval hx, hargs]
    simp [Deferred.ofValue, invoke, hrun]
  rw [Oper.semAt_eq _ _ _ (fun c h => by cases h), hrun', Oper.uponIn_round]
  refine ⟨fun e => (by rw [hF.depth] at e; cases e), hF.round (RoundIn.mono hround ?_)⟩
  rintro e w' ⟨h1, hk⟩
  rcases h1 with ⟨rfl, j1⟩ | ⟨rfl, k1⟩
  · exact ht w' j1 _ _ (hs.put hd _) (h.again hk)
  · exact hf w' k1 _ _ (hs.put hd _) (h.again hk)
end
/-- **A range within an iterator**: what it ranges over is told by J, the iterator's own M stays. -/
theorem wpc_rangeN {P : Program} {Q : Exit → Act → World → Prop} {gx : Operand} {ps : Array Tmp} {assign body : Code} {k : Nat} {ds : List Deferred} {L : Slots} {wb : World} {Ln : List Nat} {S : List Fact} {α ι β : Type} {gf : FuncId} {lb : Array Value}
    {encs : α → ι → Array Value} {Inv : World → Prop} {xs : List α} {J : List Nat → List α → World → Prop} {K : List Nat → World → Prop} (E0 M : List Ent) (pre0 : List α) (Ma : α → ι → β → List Ent) (L1 : α → ι → β → Slots)
    (hst : StabJ J) (hsk : StabT K) (hinv : ∀ T pre w, J T pre w → Inv w) (hJ : J Ln pre0 wb)
    (hg : ev L gx = some (.func (.func gf) #[] lb)) (hbd : HasBody P gf)
    (hit : ∀ w, Mem wb Ln (E0 ++ M) S w → Inv w → IterN P gf lb encs Inv xs (nums E0) w)
    (hps : ∀ x i, (encs x i).size = ps.size) (hpk : ∀ p ∈ ps.toList, p < k)
    (hassign : ∀ (l : Nat) (x : α) (i : ι) (w1 : World) (K : Act → World → Prop), x ∈ xs → (∀ b a w, Sl ⟨k, []⟩ a (L1 x i b) → Mem w1 [] (Ma x i b) [] w → K a w) →
      WPCI (Fence.wide.inRound l) P (Exit.then K (fun _ _ _ => False)) ⟨k, []⟩ (Mem w1 [] [] []) (addSlots ps.toList (encs x i).toList L) assign)
    (hbody : ∀ (l : Nat) (pre : List α) (x : α) (i : ι) (b : β) (w1 : World) (LO : List Ent), J (nums (Ma x i b ++ (M ++ LO))) (pre0 ++ pre) w1 → (pre ++ [x]) <+: xs →
      WPCI (Fence.wide.inRound l) P (RoundPostS (fun w' => ∃ u T, J T (pre0 ++ (pre ++ [x])) u ∧ Mem u T (M ++ LO) [] w') (fun c w' => c = .ret ∧ ∃ u T, K T u ∧ Mem u T (M ++ LO) [] w')) ⟨k, []⟩ (Mem w1 (nums (Ma x i b ++ (M ++ LO))) (Ma x i b ++ (M ++ LO)) []) (L1 x i b) body)
    (hdone : ∀ D u T, J T (pre0 ++ xs) u → EX Q .normal ⟨k, Go.PL.mark D :: ds⟩ (Mem u T (Ent.obj D (.deferred (some [])) :: M) []) L)
    (hstop : ∀ D u T, K T u → WPC P Q ⟨k, Go.PL.mark D :: ds⟩ (Mem u T (Ent.obj D (.deferred (some [])) :: M) []) L .ret) :
    WPC P Q ⟨k, ds⟩ (Mem wb Ln (E0 ++ M) S) L (.rangeFunc gx ps assign body) := by
  intro a w hs hr
  refine (wpIn_wide (n := 0)).1 (wpIn_rangeFunc ?_)
  intro fn hfn
  obtain ⟨rec, hrec⟩ : ∃ rec : LoopState → Option Code → Loop, rec = fun st pe => { state := st, pending := pe, fn, tmps := a.tmps, params := ps, assign, body, defers := w.heap.size } := ⟨_, rfl⟩
  obtain ⟨W1, hW1⟩ : ∃ W1, (w.alloc (.deferred (some []))).alloc (.loop (rec .ready none)) = W1 := ⟨_, rfl⟩
  have hM1 : Mem wb Ln (.obj (w.heap.size + 1) (.loop (rec .ready none)) :: Ent.obj w.heap.size (.deferred (some [])) :: (E0 ++ M)) S W1 := by
    have := (hr.allocO (.deferred (some []))).allocO (.loop (rec .ready none))
    rw [World.size_alloc] at this
    rw [← hW1, hrec]; rw [hrec] at this; exact this
  have hr1 : Mem wb Ln (E0 ++ M) S W1 := hM1.sub (.drop (.drop (Sub.refl _))) (Sub.refl _)
  have hI1 : Inv W1 := hinv _ _ _ (hst _ (nums (E0 ++ M)) _ _ _ hJ (hr1.sub .nil .nil) (nums_lt hr1))
  refine ⟨w.heap.size + 1, [Go.PL.mark w.heap.size], W1, { target := .fn (.func gf) lb, args := #[.func (.yield (w.heap.size + 1)) #[] #[]] }, W1, gf, #[.func (.yield (w.heap.size + 1)) #[] #[]] ++ lb, W1, ?_, ?_, fun _ _ => trivial, ?_, fun e => by simp [Fence.wide] at e, ?_⟩
  · rw [← hW1, hrec]; exact run_enterLoop_outer _ _ _ _ _
  · simp only [resolve, rangeCall, hs.eval hg]
    simp [go_sem]
  · simp [invoke, run_callFunc hbd]
  · refine callsIn_wide.2 ?_
    have hM2 : Mem wb Ln ([Ent.obj (w.heap.size + 1) (.loop (rec .ready none)), Ent.obj w.heap.size (.deferred (some []))] ++ M) S W1 := hM1.sub (.keep (.keep (sub_app _ _))) (Sub.refl _)
    have hJ0 : Nest (fun T w' => J T (pre0 ++ []) w') ([Ent.obj (w.heap.size + 1) (.loop (rec .ready none)), Ent.obj w.heap.size (.deferred (some []))] ++ M) (nums E0) W1 := by
      have hp : ([Ent.obj (w.heap.size + 1) (.loop (rec .ready none)), Ent.obj w.heap.size (.deferred (some []))] ++ (E0 ++ M)).Perm (([Ent.obj (w.heap.size + 1) (.loop (rec .ready none)), Ent.obj w.heap.size (.deferred (some []))] ++ M) ++ E0) := by
        rw [List.append_assoc]; exact List.Perm.append_left _ List.perm_append_comm
      have hM3 := Mem.perm hM1 hp
      refine ⟨?_, Mem.startL W1 hM2.own hM2.apart, fun j hj => ?_⟩
      · rw [List.append_nil]
        refine hst _ _ _ _ _ hJ (hM1.sub .nil .nil) fun k hk => nums_lt hM3 k ?_
        rcases List.mem_append.1 hk with hk | hk
        · obtain ⟨e, he, hn⟩ := mem_nums.1 hk
          exact mem_nums.2 ⟨e, List.mem_append_left _ he, hn⟩
        · obtain ⟨e, he, hn⟩ := mem_nums.1 hk
          exact mem_nums.2 ⟨e, List.mem_append_right _ he, hn⟩
      · obtain ⟨e, he, hn⟩ := mem_nums.1 hj
        refine ⟨?_, Ent.lt (hM3.own e (List.mem_append_right _ he)) hn⟩
        cases hm : inM ([Ent.obj (w.heap.size + 1) (.loop (rec .ready none)), Ent.obj w.heap.size (.deferred (some []))] ++ M) j
        · rfl
        · obtain ⟨f, hf, hfn⟩ := inM_iff.1 hm
          exact absurd hn ((List.pairwise_append.1 hM3.apart).2.2 f hf e he j hfn)
    refine (hit W1 hr1 hI1 (w.heap.size + 1) (fun T pre w' => Nest (fun T w' => J T (pre0 ++ pre) w') ([Ent.obj (w.heap.size + 1) (.loop (rec .ready none)), Ent.obj w.heap.size (.deferred (some []))] ++ M) T w')
      (Nest K ([Ent.obj (w.heap.size + 1) (.loop (rec .done (some .ret))), Ent.obj w.heap.size (.deferred (some []))] ++ M)) ?_ ?_ (nest_stab hsk _) ?_ hJ0).mono ?_
    · exact fun T T' pre w1 w2 h hc hT => nest_stab (stabJ_T hst (pre0 ++ pre)) _ T T' w1 w2 h hc hT
    · exact fun T pre w1 h => hinv _ _ _ h.1
    · rintro T pre x i w1 ⟨j1, j2, j3⟩ hpre
      have hl : w1.heap[w.heap.size + 1]? = some (.loop (rec .ready none)) := j2.own _ (List.mem_cons_self ..)
      have hy := run_yield (P := P) (args := encs x i) hl (by rw [hrec]; exact hps x i)
      rw [hrec] at hy
      refine ⟨fn, _, assign, body, hy, roundIn_of_wpIn hfn ?_⟩
      have hsl : Sl ⟨k, []⟩ { tmps := ((ps.zip (encs x i)).foldl (fun t (p, v) => t.setIfInBounds p v) a.tmps), defers := [] } (addSlots ps.toList (encs x i).toList L) := by
        have hs0 : Sl ⟨k, []⟩ { tmps := a.tmps, defers := [] } L := ⟨hs.size, rfl, hs.tmp⟩
        have := sl_adds ps.toList (encs x i).toList L a.tmps k (by simpa using (hps x i).symm) hpk hs0
        rw [← Array.foldl_toList, Array.toList_zip]
        exact this
      refine hassign (w.heap.size + 1) x i w1 _ (hpre.subset (List.mem_append_right _ (List.mem_singleton.2 rfl))) (fun b a1 wa hs1 hwa => ?_) _ w1 hsl (Mem.start w1)
      have jA := j2.beside hwa
      have hla : wa.heap[w.heap.size + 1]? = some (.loop (rec .ready none)) := jA.own _ (List.mem_append_right _ (List.mem_cons_self ..))
      have jA2 := jA.perm (List.perm_append_comm_assoc (Ma x i b) [Ent.obj (w.heap.size + 1) (.loop (rec .ready none)), Ent.obj w.heap.size (.deferred (some []))] M)
      obtain ⟨w2, hw2⟩ : ∃ w2, wa.putObj (w.heap.size + 1) (.loop { rec .ready none with state := .busy }) = w2 := ⟨_, rfl⟩
      have jB : Mem w1 (nums ([Ent.obj (w.heap.size + 1) (.loop (rec .ready none)), Ent.obj w.heap.size (.deferred (some []))] ++ M)) ([Ent.obj (w.heap.size + 1) (.loop { rec .ready none with state := .busy }), Ent.obj w.heap.size (.deferred (some []))] ++ (Ma x i b ++ M)) [] w2 := by
        rw [← hw2]; exact jA2.putO .here
      have hbr : (Instr.beginRound (w.heap.size + 1)).run P wa = .ok () w2 := by rw [← hw2]; exact run_beginRound hla (by rw [hrec])
      have hTk : ∀ j, j ∈ T → w2.heap[j]? = w1.heap[j]? := fun j hj => by
        have hne : j ≠ w.heap.size + 1 := fun e => by
          subst e
          exact inM_not (j3 _ hj).1 _ (List.mem_cons_self ..) rfl
        rw [← hw2, World.putObj_heap_other hne]
        exact hwa.old j (j3 j hj).2 (by simp)
      obtain ⟨TE, t1, t2, t3⟩ := asEnts w2 T fun j hj => Nat.lt_of_lt_of_le (j3 j hj).2 jB.size
      have jC : Mem w1 (nums ([Ent.obj (w.heap.size + 1) (.loop (rec .ready none)), Ent.obj w.heap.size (.deferred (some []))] ++ M)) (Ma x i b ++ (M ++ [Ent.obj (w.heap.size + 1) (.loop { rec .ready none with state := .busy }), Ent.obj w.heap.size (.deferred (some []))])) [] w2 := jB.perm (List.perm_append_comm.trans (by rw [List.append_assoc]))
      have hXY : (Ma x i b ++ (M ++ ([Ent.obj (w.heap.size + 1) (.loop { rec .ready none with state := .busy }), Ent.obj w.heap.size (.deferred (some []))] ++ TE))) = (Ma x i b ++ (M ++ [Ent.obj (w.heap.size + 1) (.loop { rec .ready none with state := .busy }), Ent.obj w.heap.size (.deferred (some []))])) ++ TE := by simp only [List.append_assoc]
      have hall : Mem w2 (nums (Ma x i b ++ (M ++ ([Ent.obj (w.heap.size + 1) (.loop { rec .ready none with state := .busy }), Ent.obj w.heap.size (.deferred (some []))] ++ TE)))) (Ma x i b ++ (M ++ ([Ent.obj (w.heap.size + 1) (.loop { rec .ready none with state := .busy }), Ent.obj w.heap.size (.deferred (some []))] ++ TE))) [] w2 := by
        rw [hXY]
        refine Mem.startL w2 (fun e he => ?_) (List.pairwise_append.2 ⟨jC.apart, t3, fun e he f hf j hn hfn => ?_⟩)
        · rcases List.mem_append.1 he with he | he
          · exact jC.own e he
          · obtain ⟨j, o, rfl, _, ho⟩ := t1 e he
            exact ho
        · obtain ⟨j', o, rfl, hj, _⟩ := t1 f hf
          cases hfn
          rcases jC.new e he j hn with h | h
          · have := (j3 j hj).2; omega
          · obtain ⟨g, hg2, hgn⟩ := mem_nums.1 h
            exact inM_not (j3 j hj).1 g hg2 hgn
      have hJ2 : J (nums (Ma x i b ++ (M ++ ([Ent.obj (w.heap.size + 1) (.loop { rec .ready none with state := .busy }), Ent.obj w.heap.size (.deferred (some []))] ++ TE)))) (pre0 ++ pre) w2 := by
        refine hst _ _ _ w1 w2 j1 ((jC.sub .nil .nil).lend fun k hk => List.mem_append_left _ hk) fun k hk => ?_
        rw [hXY] at hk
        obtain ⟨e, he, hn⟩ := mem_nums.1 hk
        rcases List.mem_append.1 he with he | he
        · obtain ⟨q1, q2⟩ := nums_lt jC k (mem_nums.2 ⟨e, he, hn⟩)
          exact ⟨q1.imp (fun h => List.mem_append_left _ h) id, q2⟩
        · obtain ⟨j, o, rfl, hj, ho⟩ := t1 e he
          cases hn
          exact ⟨.inl (List.mem_append_right _ hj), (Array.getElem?_eq_some_iff.1 ho).1⟩
      refine ⟨w2, hbr, wpIn_mono (hbody (w.heap.size + 1) pre x i b w2 _ hJ2 hpre a1 w2 hs1 hall) ?_⟩
      rintro e a3 w3 hp
      cases e with
      | normal =>
        obtain ⟨u, T3, hb, hm⟩ : ∃ u T3, J T3 (pre0 ++ (pre ++ [x])) u ∧ Mem u T3 (M ++ ([Ent.obj (w.heap.size + 1) (.loop { rec .ready none with state := .busy }), Ent.obj w.heap.size (.deferred (some []))] ++ TE)) [] w3 := hp
        have hl3 : w3.heap[w.heap.size + 1]? = some (.loop { rec .ready none with state := .busy }) := hm.own _ (List.mem_append_right _ (List.mem_cons_self ..))
        have hend := run_endRound (P := P) none hl3
        have hback : { { rec .ready none with state := .busy } with state := if (none : Option Code).isNone then .ready else .done, pending := none } = rec .ready none := by rw [hrec]; rfl
        rw [hback] at hend
        obtain ⟨n1, n2⟩ := nest_back (o' := .loop (rec .ready none)) (stabJ_T hst (pre0 ++ (pre ++ [x]))) t1 t2 hb hm
        exact ⟨_, _, hend, .inl ⟨rfl, n1⟩, fun j hj => (n2 j hj).trans (hTk j hj)⟩
      | ret =>
        obtain ⟨_, u, T3, hb, hm⟩ : Code.ret = .ret ∧ ∃ u T3, K T3 u ∧ Mem u T3 (M ++ ([Ent.obj (w.heap.size + 1) (.loop { rec .ready none with state := .busy }), Ent.obj w.heap.size (.deferred (some []))] ++ TE)) [] w3 := hp
        have hl3 : w3.heap[w.heap.size + 1]? = some (.loop { rec .ready none with state := .busy }) := hm.own _ (List.mem_append_right _ (List.mem_cons_self ..))
        have hend := run_endRound (P := P) (some .ret) hl3
        have hback : { { rec .ready none with state := .busy } with state := if (some Code.ret : Option Code).isNone then .ready else .done, pending := some .ret } = rec .done (some .ret) := by rw [hrec]; rfl
        rw [hback] at hend
        obtain ⟨n1, n2⟩ := nest_back (o' := .loop (rec .done (some .ret))) hsk t1 t2 hb hm
        exact ⟨_, _, hend, .inr ⟨rfl, n1⟩, fun j hj => (n2 j hj).trans (hTk j hj)⟩
      | exit id => exact (Code.noConfusion (hp : Code.exit id = .ret ∧ _).1)
      | goto t => exact (hp : False).elim
      | panic ch => exact (hp : False).elim
      | outgrown => exact (hp : False).elim
    · rintro e w2 ⟨⟨v, rfl⟩, (⟨T, j1, j2, j3⟩ | ⟨T, j1, j2, j3⟩)⟩
      · have hl : w2.heap[w.heap.size + 1]? = some (.loop (rec .ready none)) := j2.own _ (List.mem_cons_self ..)
        have hend := run_endLoop (P := P) hl (by rw [hrec]; simp)
        have hpn : (rec .ready none).pending = none := by rw [hrec]
        rw [hpn] at hend
        refine ⟨none, _, hend, ?_⟩
        have hd : a.defers = ds := hs.defers
        refine hdone w.heap.size w2 _ j1 _ _ ⟨hs.size, by simp [hd], hs.tmp⟩ ?_
        exact ((j2.lend fun k hk => List.mem_append_left _ hk).putO .here).sub (.drop (Sub.refl _)) .nil
      · have hl : w2.heap[w.heap.size + 1]? = some (.loop (rec .done (some .ret))) := j2.own _ (List.mem_cons_self ..)
        have hend := run_endLoop (P := P) hl (by rw [hrec]; simp)
        have hpn : (rec .done (some .ret)).pending = some .ret := by rw [hrec]
        rw [hpn] at hend
        refine ⟨some .ret, _, hend, ?_⟩
        have hd : a.defers = ds := hs.defers
        refine (wpIn_wide (n := 0)).2 (hstop w.heap.size w2 _ j1 _ _ ⟨hs.size, by simp [hd], hs.tmp⟩ ?_)
        exact ((j2.lend fun k hk => List.mem_append_left _ hk).putO .here).sub (.drop (Sub.refl _)) .nil

end Go.Proofs.Ytommkigkkeailaa
