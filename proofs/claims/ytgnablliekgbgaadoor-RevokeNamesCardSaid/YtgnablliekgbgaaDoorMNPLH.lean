import Derived.Test.YtgnablliekgbgaaDoorMNPLP
set_option linter.unusedVariables false
set_option linter.unusedSimpArgs false
/- Iterators that hand over what they yield. -/
namespace Go.PL
open Go Go.RowKit
def YieldH (P : Program) (l : Nat) {α ι : Type} (encs : α → ι → Array Value) (At : List Nat → α → ι → World → Prop) (xs : List α) (J : List Nat → List α → World → Prop) (K : World → Prop) : Prop :=
  ∀ T pre x i w1, J T pre w1 → (pre ++ [x]) <+: xs → At T x i w1 → YieldAt Fence.wide 0 P l (encs x i) w1 fun e w' =>
    (e = .returned (.bool true) ∧ J [] (pre ++ [x]) w' ∧ w1.heap.size ≤ w'.heap.size) ∨ (e = .returned (.bool false) ∧ K w')
def IterHand (P : Program) (gf : FuncId) (lb : Array Value) {α ι : Type} (encs : α → ι → Array Value) (At : List Nat → α → ι → World → Prop) (Inv : World → Prop) (xs : List α) (T0 : List Nat) (W : World) : Prop :=
  ∀ (l : Nat) (J : List Nat → List α → World → Prop) (K : World → Prop), StabJ J → (∀ T pre w1, J T pre w1 → Inv w1) → StabK K → YieldH P l encs At xs J K →
    J T0 [] W → Calls P gf (#[.func (.yield l) #[] #[]] ++ lb) W fun e w' => (∃ v, e = .returned v) ∧ ((∃ T, J T xs w') ∨ K w')
section
variable {F : Fence} {P : Program} {n : Cx} {R : World → Prop} {L : Slots} {Q : Exit → Act → World → Prop} {ops : Array Oper} {rest : List Oper} {op : Op} {ty : TypeId} {pos : String} {af : Array Edge} {d : Tmp}
def YH {α : Type} (J : List Nat → List α → World → Prop) (K : World → Prop) (pre : List α) (y : α) : Type := { u : World // J [] (pre ++ [y]) u } ⊕ { u : World // K u }
def yhV {α : Type} {J : List Nat → List α → World → Prop} {K : World → Prop} {pre : List α} {y : α} : YH J K pre y → Value
  | .inl _ => .bool true
  | .inr _ => .bool false
def yhR {α : Type} {J : List Nat → List α → World → Prop} {K : World → Prop} {pre : List α} {y : α} : YH J K pre y → World → Prop
  | .inl u => Mem u.1 [] [] []
  | .inr u => Mem u.1 [] [] []
theorem yield_atH {l : Nat} {vs : List Value} {α ι : Type} {encs : α → ι → Array Value} {At : List Nat → α → ι → World → Prop} {xs : List α} {J : List Nat → List α → World → Prop} {K : World → Prop}
    {wb : World} {T0 : List Nat} {M : List Ent} {S : List Fact} {pre : List α} {y : α} {i : ι} (hst : StabJ J) (hy : YieldH P l encs At xs J K) (hJ : J T0 pre wb) (hpre : (pre ++ [y]) <+: xs) (he : encs y i = vs.toArray)
    {w : World} (hAt : At (nums M) y i w) (h : Mem wb T0 M S w) : YieldAt Fence.wide 0 P l vs.toArray w fun e w' => ∃ s : YH J K pre y, e = .returned (yhV s) ∧ yhR s w' := by
  have hJ' : J (nums M) pre w := hst _ _ _ _ _ hJ (h.sub .nil .nil) (nums_lt h)
  obtain ⟨fn, tmps, assign, body, hrun, hround⟩ := hy (nums M) pre y i w hJ' hpre hAt
  rw [he] at hrun
  refine ⟨fn, tmps, assign, body, hrun, hround.mono ?_⟩
  rintro e w' (⟨rfl, j1, j2⟩ | ⟨rfl, hk⟩)
  · exact ⟨.inl ⟨w', j1⟩, rfl, Mem.start w'⟩
  · exact ⟨.inr ⟨w', hk⟩, rfl, Mem.start w'⟩
theorem wil_yieldH {x : Operand} {args : Array Operand} {at_ : Array TypeId} {l : Nat} {vs : List Value} {α ι : Type} {encs : α → ι → Array Value} {At : List Nat → α → ι → World → Prop} {xs : List α} {J : List Nat → List α → World → Prop} {K : World → Prop}
    {wb : World} {T0 : List Nat} {M : List Ent} {S : List Fact} {pre : List α} (y : α) (i : ι)
    (hx : ev L x = some (.func (.yield l) #[] #[])) (hv : evs L args.toList = some vs) (hst : StabJ J) (hy : YieldH P l encs At xs J K) (hJ : J T0 pre wb) (hpre : (pre ++ [y]) <+: xs) (he : encs y i = vs.toArray)
    (hAt : ∀ w, Mem wb T0 M S w → At (nums M) y i w) (hd : Nat.blt d n.n = true)
    (ht : ∀ u, J [] (pre ++ [y]) u → WPLI Fence.wide P ops Q n (Mem u [] [] []) ((d, .bool true) :: L) rest)
    (hf : ∀ u, K u → WPLI Fence.wide P ops Q n (Mem u [] [] []) ((d, .bool false) :: L) rest) :
    WPLI Fence.wide P ops Q n (Mem wb T0 M S) L (⟨some d, .call { callee := .value x, args := args, argTypes := at_ }, ty, pos, af, none⟩ :: rest) := by
  refine wpli_yield (l := l) (ι := YH J K pre y) (V := yhV) (R' := yhR) hx hv (fun w h => yield_atH hst hy hJ hpre he (hAt w h) h) hd ?_
  rintro (u | u)
  · exact ht u.1 u.2
  · exact hf u.1 u.2
end
theorem wpc_rangeH {P : Program} {Q : Exit → Act → World → Prop} {gx : Operand} {ps : Array Tmp} {assign body : Code} {k : Nat} {L : Slots} {w0 : World} {Ln : List Nat} {S : List Fact} {α ι ρ σ β : Type} {gf : FuncId} {lb : Array Value}
    {encs : α → ι → Array Value} {At : List Nat → α → ι → World → Prop} {Inv : World → Prop} {xs : List α} (E0 : List Ent) (M : σ → List Ent) (g : List α → σ → Prop) (s0 : σ) (pr : ρ → Prop) (cd : ρ → Code) (Mr : ρ → List Ent) (G : ρ → List Ent) (Ma : α → ι → β → List Ent) (L1 : α → ι → β → Slots)
    (hg : ev L gx = some (.func (.func gf) #[] lb)) (hbd : HasBody P gf) (h0 : g [] s0)
    (hE0 : ∀ w, Mem w0 Ln (E0 ++ M s0) S w → ∀ k, k ∈ nums E0 → w0.heap.size ≤ k)
    (hit : ∀ w, Mem w0 Ln (E0 ++ M s0) S w → IterHand P gf lb encs At Inv xs (nums E0) w) (hInv : ∀ pre s w, g pre s → Mem w0 Ln (M s) [] w → Inv w)
    (hAt : ∀ T x i w w', At T x i w → (∀ j, j ∈ T → w'.heap[j]? = w.heap[j]?) → At T x i w')
    (hps : ∀ x i, (encs x i).size = ps.size) (hpk : ∀ p ∈ ps.toList, p < k)
    (hassign : ∀ (l : Nat) (x : α) (i : ι) (w1 : World) (K : Act → World → Prop), (∀ b a w, Sl ⟨k, []⟩ a (L1 x i b) → Mem w1 [] (Ma x i b) [] w → K a w) →
      WPCI (Fence.wide.inRound l) P (Exit.then K (fun _ _ _ => False)) ⟨k, []⟩ (Mem w1 [] [] []) (addSlots ps.toList (encs x i).toList L) assign)
    (hbody : ∀ (l : Nat) (pre : List α) (x : α) (i : ι) (s : σ) (b : β) (w1 : World) (T : List Nat), g pre s → (pre ++ [x]) <+: xs → Mem w0 Ln (Ma x i b ++ M s) [] w1 → At T x i w1 → (∀ j, j ∈ T → w0.heap.size ≤ j ∧ inM (Ma x i b ++ M s) j = false) →
      WPCI (Fence.wide.inRound l) P (RoundPostS (fun w' => ∃ s' Mn Gn, g (pre ++ [x]) s' ∧ Mem w1 (nums (Ma x i b ++ M s)) Mn [] w' ∧ GainOk T Gn w1 ∧ (Mn ++ Gn).Perm (M s')) (fun c w' => ∃ r, pr r ∧ cd r = c ∧ Mem w1 (nums (Ma x i b ++ M s)) (Mr r) [] w' ∧ GainOk T (G r) w1)) ⟨k, []⟩ (Mem w1 (nums (Ma x i b ++ M s)) (Ma x i b ++ M s) []) (L1 x i b) body)
    (hdone : ∀ D s, g xs s → EX Q .normal ⟨k, [mark D]⟩ (Mem w0 Ln (.obj D (.deferred (some [])) :: M s) []) L)
    (hstop : ∀ D r, pr r → WPC P Q ⟨k, [mark D]⟩ (Mem w0 Ln (.obj D (.deferred (some [])) :: (Mr r ++ G r)) []) L (cd r)) :
    WPC P Q ⟨k, []⟩ (Mem w0 Ln (E0 ++ M s0) S) L (.rangeFunc gx ps assign body) := by
  intro a w hs hr
  refine (wpIn_wide (n := 0)).1 (wpIn_rangeFunc ?_)
  intro fn hfn
  obtain ⟨rec, hrec⟩ : ∃ rec : LoopState → Option Code → Loop, rec = fun st pe => { state := st, pending := pe, fn, tmps := a.tmps, params := ps, assign, body, defers := w.heap.size } := ⟨_, rfl⟩
  obtain ⟨W1, hW1⟩ : ∃ W1, (w.alloc (.deferred (some []))).alloc (.loop (rec .ready none)) = W1 := ⟨_, rfl⟩
  have hM1 : Mem w0 Ln (.obj (w.heap.size + 1) (.loop (rec .ready none)) :: .obj w.heap.size (.deferred (some [])) :: (E0 ++ M s0)) S W1 := by
    have := (hr.allocO (.deferred (some []))).allocO (.loop (rec .ready none))
    rw [World.size_alloc] at this
    rw [← hW1]; exact this
  have hsz1 : W1.heap.size = w.heap.size + 2 := by rw [← hW1]; simp
  have hw0 := hr.size
  have hr1 : Mem w0 Ln (E0 ++ M s0) S W1 := hM1.sub (.drop (.drop (Sub.refl _))) (Sub.refl _)
  refine ⟨w.heap.size + 1, [mark w.heap.size], W1, { target := .fn (.func gf) lb, args := #[.func (.yield (w.heap.size + 1)) #[] #[]] }, W1, gf, #[.func (.yield (w.heap.size + 1)) #[] #[]] ++ lb, W1, ?_, ?_, fun _ _ => trivial, ?_, fun e => by simp [Fence.wide] at e, ?_⟩
  · rw [← hW1, hrec]; exact run_enterLoop_outer _ _ _ _ _
  · simp only [resolve, rangeCall, hs.eval hg]
    simp [go_sem]
  · simp [invoke, run_callFunc hbd]
  · refine callsIn_wide.2 ?_
    let J : List Nat → List α → World → Prop := fun T pre w' => ∃ s, g pre s ∧ Mem w0 Ln (.obj (w.heap.size + 1) (.loop (rec .ready none)) :: .obj w.heap.size (.deferred (some [])) :: M s) [] w' ∧ W1.heap.size ≤ w'.heap.size ∧
      ∀ j, j ∈ T → w0.heap.size ≤ j ∧ j ≠ w.heap.size ∧ j ≠ w.heap.size + 1 ∧ inM (M s) j = false ∧ j < w'.heap.size
    let Kx : World → Prop := fun w' => ∃ r, pr r ∧ Mem w0 Ln (.obj (w.heap.size + 1) (.loop (rec .done (some (cd r)))) :: .obj w.heap.size (.deferred (some [])) :: (Mr r ++ G r)) [] w'
    have hJ0 : J (nums E0) [] W1 := by
      refine ⟨s0, h0, hM1.sub (.keep (.keep (sub_app _ _))) .nil, Nat.le_refl _, fun j hj => ?_⟩
      obtain ⟨e, he, hn⟩ := mem_nums.1 hj
      have hlt := Ent.lt (hr.own e (List.mem_append_left _ he)) hn
      refine ⟨hE0 w hr j hj, zz12, zz12, ?_, zz12⟩
      cases hm : inM (M s0) j
      · rfl
      · obtain ⟨f, hf, hfn⟩ := inM_iff.1 hm
        exact absurd hfn ((List.pairwise_append.1 hr.apart).2.2 e he f hf j hn)
    refine (hit W1 hr1 (w.heap.size + 1) J Kx ?_ ?_ ?_ ?_ hJ0).mono ?_
    · rintro T T' pre w1 w2 ⟨s, hgs, j1, j2, j3⟩ hc hT
      have hnot : ∀ j, j ∈ T → w0.heap.size ≤ j ∧ inM (.obj (w.heap.size + 1) (.loop (rec .ready none)) :: .obj w.heap.size (.deferred (some [])) :: M s) j = false := fun j hj => by
        obtain ⟨a1, a2, a3, a4, _⟩ := j3 j hj
        refine ⟨a1, ?_⟩
        simp only [inM, List.any_cons, Bool.or_eq_false_iff, Ent.num]
        refine ⟨zz50, zz50, a4⟩
      refine ⟨s, hgs, j1.chg hc hnot, Nat.le_trans j2 hc.size, fun j hj => ?_⟩
      obtain ⟨h1, h2⟩ := hT j hj
      rcases h1 with h1 | h1
      · obtain ⟨a1, a2, a3, a4, _⟩ := j3 j h1
        exact ⟨a1, a2, a3, a4, h2⟩
      · refine ⟨zz12, zz12, zz12, ?_, h2⟩
        cases hm : inM (M s) j
        · rfl
        · obtain ⟨e, he, hn⟩ := inM_iff.1 hm
          have := Ent.lt (j1.own e (List.mem_cons_of_mem _ (List.mem_cons_of_mem _ he))) hn
          omega
    · rintro T pre w1 ⟨s, hgs, j1, _⟩
      exact hInv pre s w1 hgs (j1.sub (.drop (.drop (Sub.refl _))) .nil)
    · rintro w1 w2 ⟨r, hp, hk⟩ hc
      exact ⟨r, hp, hk.chg hc (fun _ h => by cases h)⟩
    · rintro T pre x i w1 ⟨s, hgs, j1, j2, j3⟩ hpre hat
      have hl : w1.heap[w.heap.size + 1]? = some (.loop (rec .ready none)) := j1.own _ (List.mem_cons_self ..)
      have hy := run_yield (P := P) (args := encs x i) hl (by rw [hrec]; exact hps x i)
      rw [hrec] at hy
      refine ⟨fn, _, assign, body, hy, roundIn_of_wpIn hfn ?_⟩
      have hsl : Sl ⟨k, []⟩ { tmps := ((ps.zip (encs x i)).foldl (fun t (p, v) => t.setIfInBounds p v) a.tmps), defers := [] } (addSlots ps.toList (encs x i).toList L) := by
        have hs0 : Sl ⟨k, []⟩ { tmps := a.tmps, defers := [] } L := ⟨hs.size, rfl, hs.tmp⟩
        have := sl_adds ps.toList (encs x i).toList L a.tmps k (by simpa using (hps x i).symm) hpk hs0
        rw [← Array.foldl_toList, Array.toList_zip]
        exact this
      refine hassign (w.heap.size + 1) x i w1 _ (fun b a1 wa hs1 hwa => ?_) _ w1 hsl (Mem.start w1)
      have jA := j1.beside hwa
      have hla : wa.heap[w.heap.size + 1]? = some (.loop (rec .ready none)) := jA.own _ (List.mem_append_right _ (List.mem_cons_self ..))
      have jA2 : Mem w0 Ln (.obj (w.heap.size + 1) (.loop (rec .ready none)) :: .obj w.heap.size (.deferred (some [])) :: (Ma x i b ++ M s)) [] wa :=
        jA.perm (List.perm_middle.trans (.cons _ List.perm_middle))
      obtain ⟨w2, hw2⟩ : ∃ w2, wa.putObj (w.heap.size + 1) (.loop { rec .ready none with state := .busy }) = w2 := ⟨_, rfl⟩
      have j4 : Mem w0 Ln ([.obj (w.heap.size + 1) (.loop { rec .ready none with state := .busy }), .obj w.heap.size (.deferred (some []))] ++ (Ma x i b ++ M s)) [] w2 := by
        rw [← hw2]; exact jA2.putO .here
      have hbr : (Instr.beginRound (w.heap.size + 1)).run P wa = .ok () w2 := by rw [← hw2]; exact run_beginRound hla (by rw [hrec])
      have hm2 : Mem w0 Ln (Ma x i b ++ M s) [] w2 := j4.sub (.drop (.drop (Sub.refl _))) .nil
      have hsa := hwa.size
      have hs2 : w2.heap.size = wa.heap.size := by rw [← hw2]; simp
      have hT2 : ∀ j, j ∈ T → w2.heap[j]? = w1.heap[j]? := fun j hj => by
        rw [← hw2, World.putObj_heap_other (j3 j hj).2.2.1]
        exact hwa.old j (j3 j hj).2.2.2.2 zz40
      have hTM : ∀ j, j ∈ T → inM (Ma x i b ++ M s) j = false := fun j hj => by
        rw [inM_append, Bool.or_eq_false_iff]
        refine ⟨?_, (j3 j hj).2.2.2.1⟩
        cases hm : inM (Ma x i b) j
        · rfl
        · obtain ⟨e, he, hn⟩ := inM_iff.1 hm
          have h1 := (hwa.new e he j hn).resolve_right zz40
          have := (j3 j hj).2.2.2.2
          omega
      have hbd2 := hbody (w.heap.size + 1) pre x i s b w2 T hgs hpre hm2 (hAt T x i w1 w2 hat hT2) (fun j hj => ⟨(j3 j hj).1, hTM j hj⟩)
      refine ⟨w2, hbr, wpIn_mono (hbd2 a1 w2 hs1 (by have := hm2.base; exact this)) ?_⟩
      have hnT : ∀ j, j ∈ T → j ∉ nums (Ma x i b ++ M s) := fun j hj hm => by
        obtain ⟨e, he, hn⟩ := mem_nums.1 hm
        exact inM_not (hTM j hj) e he hn
      have gain : ∀ (Mq G : List Ent) (w3 : World), Mem w2 (nums (Ma x i b ++ M s)) Mq [] w3 → GainOk T G w2 → Mem w0 Ln (.obj (w.heap.size + 1) (.loop { rec .ready none with state := .busy }) :: .obj w.heap.size (.deferred (some [])) :: (Mq ++ G)) [] w3 := by
        rintro Mq G w3 hm3 ⟨hg1, hg2⟩
        have j5 := j4.framed hm3
        have j6 := Mem.gain j5 (G := G) (fun e he => ⟨Ent.kept (hg1 e he).1 fun q hq => by
            have hqT := (hg1 e he).2 q hq
            exact hm3.old q (by have := (j3 q hqT).2.2.2.2; omega) (hnT q hqT), fun q hq => by
            have hqT := (hg1 e he).2 q hq
            refine ⟨(j3 q hqT).1, ?_⟩
            rw [inM_append, Bool.or_eq_false_iff]
            refine ⟨?_, ?_⟩
            · simp only [inM, List.any_cons, List.any_nil, Bool.or_eq_false_iff, Ent.num]
              have a2 := (j3 q hqT).2.1
              have a3 := (j3 q hqT).2.2.1
              refine ⟨zz50, zz50, trivial⟩
            · cases hm : inM Mq q
              · rfl
              · obtain ⟨f, hf, hn⟩ := inM_iff.1 hm
                rcases hm3.new f hf q hn with h | h
                · have := (j3 q hqT).2.2.2.2; omega
                · exact absurd h (hnT q hqT)⟩) hg2
        exact j6
      have stop : ∀ (c : Code) (w3 : World), (∃ r, pr r ∧ cd r = c ∧ Mem w2 (nums (Ma x i b ++ M s)) (Mr r) [] w3 ∧ GainOk T (G r) w2) → (Instr.endRound (w.heap.size + 1) (some c)).run P w3 = .ok (.bool false) (w3.putObj (w.heap.size + 1) (.loop (rec .done (some c)))) ∧ Kx (w3.putObj (w.heap.size + 1) (.loop (rec .done (some c)))) := by
        rintro c w3 ⟨r, hp, rfl, hm3, hg⟩
        have j7 := gain (Mr r) (G r) w3 hm3 hg
        have hl3 : w3.heap[w.heap.size + 1]? = some (.loop { rec .ready none with state := .busy }) := j7.own _ (List.mem_cons_self ..)
        have hend := run_endRound (P := P) (some (cd r)) hl3
        rw [hrec] at hend
        refine ⟨?_, r, hp, j7.putO .here⟩
        rw [hrec]; exact hend
      rintro e a3 w3 hp
      cases e with
      | normal =>
        obtain ⟨s', Mn, Gn, hgs', hp', hg, hpm⟩ : ∃ s' Mn Gn, g (pre ++ [x]) s' ∧ Mem w2 (nums (Ma x i b ++ M s)) Mn [] w3 ∧ GainOk T Gn w2 ∧ (Mn ++ Gn).Perm (M s') := hp
        have j5 : Mem w0 Ln (.obj (w.heap.size + 1) (.loop { rec .ready none with state := .busy }) :: .obj w.heap.size (.deferred (some [])) :: M s') [] w3 := (gain Mn Gn w3 hp' hg).perm (.cons _ (.cons _ hpm))
        have hl3 : w3.heap[w.heap.size + 1]? = some (.loop { rec .ready none with state := .busy }) := j5.own _ (List.mem_cons_self ..)
        have hend := run_endRound (P := P) none hl3
        have hback : { { rec .ready none with state := .busy } with state := if (none : Option Code).isNone then .ready else .done, pending := none } = rec .ready none := by rw [hrec]; rfl
        rw [hback] at hend
        have hsz3 := hp'.size
        refine ⟨_, _, hend, .inl ⟨rfl, ⟨s', hgs', ?_, ?_, fun j hj => by cases hj⟩, by rw [World.putObj_size]; omega⟩⟩
        · exact j5.putO .here
        · rw [World.putObj_size]; omega
      | ret =>
        obtain ⟨h1, h2⟩ := stop .ret w3 hp
        exact ⟨_, _, h1, .inr ⟨rfl, h2⟩⟩
      | exit id =>
        obtain ⟨h1, h2⟩ := stop (.exit id) w3 hp
        exact ⟨_, _, h1, .inr ⟨rfl, h2⟩⟩
      | goto t => exact (hp : False).elim
      | panic ch => exact (hp : False).elim
      | outgrown => exact (hp : False).elim
    · rintro e w2 ⟨⟨v, rfl⟩, (⟨T, s, hgs, j1, j2, j3⟩ | ⟨r, hp, hk⟩)⟩
      · have hl : w2.heap[w.heap.size + 1]? = some (.loop (rec .ready none)) := j1.own _ (List.mem_cons_self ..)
        have hend := run_endLoop (P := P) hl (by rw [hrec]; simp)
        have hpn : (rec .ready none).pending = none := by rw [hrec]
        rw [hpn] at hend
        refine ⟨none, _, hend, ?_⟩
        have hd : a.defers = [] := hs.defers
        refine hdone w.heap.size s hgs _ _ ⟨hs.size, by simp [hd], hs.tmp⟩ ?_
        exact (j1.putO .here).sub (.drop (Sub.refl _)) .nil
      · have hl : w2.heap[w.heap.size + 1]? = some (.loop (rec .done (some (cd r)))) := hk.own _ (List.mem_cons_self ..)
        have hend := run_endLoop (P := P) hl (by rw [hrec]; simp)
        have hpn : (rec .done (some (cd r))).pending = some (cd r) := by rw [hrec]
        rw [hpn] at hend
        refine ⟨some (cd r), _, hend, ?_⟩
        have hd : a.defers = [] := hs.defers
        refine (wpIn_wide (n := 0)).2 (hstop w.heap.size r hp _ _ ⟨hs.size, by simp [hd], hs.tmp⟩ ?_)
        exact (hk.putO .here).sub (.drop (Sub.refl _)) .nil
end Go.PL
