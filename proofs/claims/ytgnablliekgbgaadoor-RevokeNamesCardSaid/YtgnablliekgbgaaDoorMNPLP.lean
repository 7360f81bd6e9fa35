import Derived.Test.YtgnablliekgbgaaDoorMNPLL
set_option linter.unusedVariables false
set_option linter.unusedSimpArgs false
/- Regions in which several operations make things, in whatever order. -/
namespace Go.PL
open Go Go.RowKit
structure Mk where
  i : Nat
  d : Nat
  deps : List Nat
  p : List Value → Value → Prop
  E : List Value → Value → Ent
abbrev Asg := Nat → Option Value
def Asg.v (σ : Asg) (j : Nat) : Value := (σ j).getD undef
def Asg.upd (σ : Asg) (i : Nat) (v : Value) : Asg := fun j => if j = i then some v else σ j
def mkSlots (σ : Asg) : List Mk → Slots
  | [] => []
  | m :: l => match σ m.i with
    | some v => (m.d, v) :: mkSlots σ l
    | none => mkSlots σ l
def mkEnts (σ : Asg) : List Mk → List Ent
  | [] => []
  | m :: l => match σ m.i with
    | some v => m.E (m.deps.map σ.v) v :: mkEnts σ l
    | none => mkEnts σ l
def Asg.ok (σ : Asg) (ms : List Mk) : Prop := ∀ m ∈ ms, ∀ v, σ m.i = some v → (∀ j ∈ m.deps, (σ j).isSome = true) ∧ m.p (m.deps.map σ.v) v
def mkLeft (σ : Asg) : List Mk → Nat
  | [] => 0
  | m :: l => (if (σ m.i).isSome then 0 else 1) + mkLeft σ l
def MkApart (ms : List Mk) : Prop := ms.Pairwise fun a b => a.i ≠ b.i ∧ a.d ≠ b.d
theorem upd_self (σ : Asg) (i : Nat) (v : Value) : σ.upd i v i = some v := if_pos rfl
theorem upd_ne (σ : Asg) {i j : Nat} (v : Value) (h : j ≠ i) : σ.upd i v j = σ j := if_neg h
theorem upd_deps {σ : Asg} {i : Nat} {v : Value} (h0 : σ i = none) {ds : List Nat} (hd : ∀ j ∈ ds, (σ j).isSome = true) : ds.map (σ.upd i v).v = ds.map σ.v :=
  List.map_congr_left fun j hj => by
    have : j ≠ i := fun e => by have := hd j hj; rw [e, h0] at this; cases this
    unfold Asg.v
    rw [upd_ne σ v this]
theorem ents_same {σ : Asg} {i : Nat} {v : Value} (h0 : σ i = none) : ∀ (ms : List Mk), (∀ m ∈ ms, m.i ≠ i) → (∀ m ∈ ms, ∀ u, σ m.i = some u → ∀ j ∈ m.deps, (σ j).isSome = true) → mkEnts (σ.upd i v) ms = mkEnts σ ms
  | [], _, _ => rfl
  | m :: l, h1, h2 => by
    have ih := ents_same (v := v) h0 l (fun x hx => h1 x (List.mem_cons_of_mem _ hx)) (fun x hx => h2 x (List.mem_cons_of_mem _ hx))
    unfold mkEnts
    rw [upd_ne σ v (h1 m (List.mem_cons_self ..)), ih]
    cases hm : σ m.i with
    | none => rfl
    | some u => rw [upd_deps h0 (h2 m (List.mem_cons_self ..) u hm)]
theorem slots_same {σ : Asg} {i : Nat} {v : Value} : ∀ (ms : List Mk), (∀ m ∈ ms, m.i ≠ i) → mkSlots (σ.upd i v) ms = mkSlots σ ms
  | [], _ => rfl
  | m :: l, h1 => by
    unfold mkSlots
    rw [upd_ne σ v (h1 m (List.mem_cons_self ..)), slots_same l (fun x hx => h1 x (List.mem_cons_of_mem _ hx))]
theorem left_same {σ : Asg} {i : Nat} {v : Value} : ∀ (ms : List Mk), (∀ m ∈ ms, m.i ≠ i) → mkLeft (σ.upd i v) ms = mkLeft σ ms
  | [], _ => rfl
  | m :: l, h1 => by
    unfold mkLeft
    rw [upd_ne σ v (h1 m (List.mem_cons_self ..)), left_same l (fun x hx => h1 x (List.mem_cons_of_mem _ hx))]
theorem ents_upd {σ : Asg} {m0 : Mk} {v : Value} (h0 : σ m0.i = none) (hd0 : ∀ j ∈ m0.deps, (σ j).isSome = true) : ∀ (ms : List Mk), MkApart ms → m0 ∈ ms → (∀ m ∈ ms, ∀ u, σ m.i = some u → ∀ j ∈ m.deps, (σ j).isSome = true) →
    (m0.E (m0.deps.map σ.v) v :: mkEnts σ ms).Perm (mkEnts (σ.upd m0.i v) ms)
  | [], _, h, _ => by cases h
  | m :: l, ha, hm, h2 => by
    have ha' := List.pairwise_cons.1 ha
    by_cases e : m.i = m0.i
    · have : m = m0 := by
        rcases List.mem_cons.1 hm with rfl | hm
        · rfl
        · exact absurd e (ha'.1 m0 hm).1
      subst this
      have hs := ents_same (v := v) h0 l (fun x hx => fun h => (ha'.1 x hx).1 h.symm) (fun x hx => h2 x (List.mem_cons_of_mem _ hx))
      unfold mkEnts
      rw [upd_self, h0, hs]
      dsimp only
      rw [upd_deps h0 hd0]
    · have hm' : m0 ∈ l := (List.mem_cons.1 hm).resolve_left fun h => e (by rw [h])
      have ih := ents_upd (v := v) h0 hd0 l ha'.2 hm' (fun x hx => h2 x (List.mem_cons_of_mem _ hx))
      unfold mkEnts
      rw [upd_ne σ v e]
      cases hu : σ m.i with
      | none => exact ih
      | some u =>
        dsimp only
        rw [upd_deps h0 (h2 m (List.mem_cons_self ..) u hu)]
        exact (List.Perm.swap _ _ _).trans (ih.cons _)
theorem left_upd {σ : Asg} {m0 : Mk} {v : Value} (h0 : σ m0.i = none) : ∀ (ms : List Mk), MkApart ms → m0 ∈ ms → mkLeft (σ.upd m0.i v) ms + 1 = mkLeft σ ms
  | [], _, h => by cases h
  | m :: l, ha, hm => by
    have ha' := List.pairwise_cons.1 ha
    by_cases e : m.i = m0.i
    · have : m = m0 := by
        rcases List.mem_cons.1 hm with rfl | hm
        · rfl
        · exact absurd e (ha'.1 m0 hm).1
      subst this
      unfold mkLeft
      rw [upd_self, h0, left_same l (fun x hx => fun h => (ha'.1 x hx).1 h.symm)]
      show 0 + _ + 1 = 1 + _
      omega
    · have hm' : m0 ∈ l := (List.mem_cons.1 hm).resolve_left fun h => e (by rw [h])
      have ih := left_upd (v := v) h0 l ha'.2 hm'
      unfold mkLeft
      rw [upd_ne σ v e]; omega
theorem get_app_cons {d t : Nat} {v : Value} {l : Slots} : get ((d, v) :: l) t = if d = t then some v else get l t := get_cons d t v l
theorem slots_upd {σ : Asg} {m0 : Mk} {v : Value} {L0 : Slots} (h0 : σ m0.i = none) (t : Nat) : ∀ (ms : List Mk), MkApart ms → m0 ∈ ms → get (mkSlots (σ.upd m0.i v) ms ++ L0) t = get ((m0.d, v) :: (mkSlots σ ms ++ L0)) t
  | [], _, h => by cases h
  | m :: l, ha, hm => by
    have ha' := List.pairwise_cons.1 ha
    by_cases e : m.i = m0.i
    · have : m = m0 := by
        rcases List.mem_cons.1 hm with rfl | hm
        · rfl
        · exact absurd e (ha'.1 m0 hm).1
      subst this
      unfold mkSlots
      rw [upd_self, h0, slots_same l (fun x hx => fun h => (ha'.1 x hx).1 h.symm)]
      rfl
    · have hm' : m0 ∈ l := (List.mem_cons.1 hm).resolve_left fun h => e (by rw [h])
      have ih := slots_upd (v := v) (L0 := L0) h0 t l ha'.2 hm'
      have hd := (ha'.1 m0 hm').2
      unfold mkSlots
      rw [upd_ne σ v e]
      cases hu : σ m.i with
      | none => exact ih
      | some u =>
        show get ((m.d, u) :: (mkSlots (σ.upd m0.i v) l ++ L0)) t = get ((m0.d, v) :: (m.d, u) :: (mkSlots σ l ++ L0)) t
        rw [get_app_cons, ih, get_app_cons, get_app_cons, get_app_cons]
        by_cases h1 : m.d = t
        · rw [if_pos h1, if_neg (fun h => hd (h1.trans h.symm)), if_pos h1]
        · rw [if_neg h1, if_neg h1]
theorem slots_base {σ : Asg} {L0 : Slots} (t : Nat) {u : Value} (h : get L0 t = some u) : ∀ (ms : List Mk), (∀ m ∈ ms, get L0 m.d = none) → get (mkSlots σ ms ++ L0) t = some u
  | [], _ => h
  | m :: l, hf => by
    have ih := slots_base (σ := σ) t h l (fun x hx => hf x (List.mem_cons_of_mem _ hx))
    unfold mkSlots
    cases hu : σ m.i with
    | none => exact ih
    | some x =>
      show get ((m.d, x) :: (mkSlots σ l ++ L0)) t = _
      rw [get_app_cons, if_neg, ih]
      intro e
      have := hf m (List.mem_cons_self ..)
      rw [e, h] at this; cases this
theorem slots_mk {σ : Asg} {L0 : Slots} {m0 : Mk} {v : Value} (h : σ m0.i = some v) : ∀ (ms : List Mk), MkApart ms → m0 ∈ ms → get (mkSlots σ ms ++ L0) m0.d = some v
  | [], _, hm => by cases hm
  | m :: l, ha, hm => by
    have ha' := List.pairwise_cons.1 ha
    unfold mkSlots
    rcases List.mem_cons.1 hm with rfl | hm'
    · rw [h]
      show get ((m0.d, v) :: (mkSlots σ l ++ L0)) m0.d = _
      rw [get_app_cons, if_pos rfl]
    · have ih := slots_mk (L0 := L0) h l ha'.2 hm'
      cases hu : σ m.i with
      | none => exact ih
      | some x =>
        show get ((m.d, x) :: (mkSlots σ l ++ L0)) m0.d = _
        rw [get_app_cons, if_neg (ha'.1 m0 hm').2, ih]
theorem ents_mk {σ : Asg} {m0 : Mk} {v : Value} (h : σ m0.i = some v) : ∀ (ms : List Mk), m0 ∈ ms → m0.E (m0.deps.map σ.v) v ∈ mkEnts σ ms
  | [], hm => by cases hm
  | m :: l, hm => by
    unfold mkEnts
    rcases List.mem_cons.1 hm with rfl | hm'
    · rw [h]; exact List.mem_cons_self ..
    · have ih := ents_mk h l hm'
      cases hu : σ m.i with
      | none => exact ih
      | some x => exact List.mem_cons_of_mem _ ih
theorem left_zero {σ : Asg} : ∀ (ms : List Mk), mkLeft σ ms = 0 → ∀ m ∈ ms, (σ m.i).isSome = true
  | [], _, m, hm => by cases hm
  | x :: l, h, m, hm => by
    unfold mkLeft at h
    have h1 : (σ x.i).isSome = true := by
      cases hx : (σ x.i).isSome with
      | true => rfl
      | false => rw [hx] at h; simp at h
    rcases List.mem_cons.1 hm with rfl | hm
    · exact h1
    · exact left_zero l zz12 m hm
theorem first_left {σ : Asg} : ∀ (ms : List Mk) {u : Nat}, mkLeft σ ms = u + 1 → ∃ m ∈ ms, σ m.i = none ∧ ∀ x ∈ ms, σ x.i = none → m.i ≤ x.i
  | [], u, h => by cases h
  | m :: l, u, h => by
    unfold mkLeft at h
    cases hm : σ m.i with
    | some v =>
      rw [hm] at h
      obtain ⟨x, hx, h1, h2⟩ := first_left l (u := u) (by simpa using h)
      refine ⟨x, List.mem_cons_of_mem _ hx, h1, fun y hy hn => ?_⟩
      rcases List.mem_cons.1 hy with rfl | hy
      · rw [hm] at hn; cases hn
      · exact h2 y hy hn
    | none =>
      cases hl : mkLeft σ l with
      | zero =>
        refine ⟨m, List.mem_cons_self .., hm, fun y hy hn => ?_⟩
        rcases List.mem_cons.1 hy with rfl | hy
        · exact Nat.le_refl _
        · have := left_zero l hl y hy
          rw [hn] at this; cases this
      | succ k =>
        obtain ⟨x, hx, h1, h2⟩ := first_left l hl
        by_cases e : m.i ≤ x.i
        · refine ⟨m, List.mem_cons_self .., hm, fun y hy hn => ?_⟩
          rcases List.mem_cons.1 hy with rfl | hy
          · exact Nat.le_refl _
          · exact Nat.le_trans e (h2 y hy hn)
        · refine ⟨x, List.mem_cons_of_mem _ hx, h1, fun y hy hn => ?_⟩
          rcases List.mem_cons.1 hy with rfl | hy
          · omega
          · exact h2 y hy hn
theorem left_none : ∀ ms : List Mk, mkLeft (fun _ => none) ms = ms.length
  | [] => rfl
  | m :: l => by unfold mkLeft; rw [left_none l]; show 1 + _ = _; rw [List.length_cons]; omega
theorem apart_eq : ∀ {ms : List Mk}, MkApart ms → ∀ {x m : Mk}, x ∈ ms → m ∈ ms → x.i = m.i → x = m
  | [], _, x, m, hx, _, _ => by cases hx
  | y :: l, ha, x, m, hx, hm, e => by
    have ha' := List.pairwise_cons.1 ha
    rcases List.mem_cons.1 hx with h1 | h1 <;> rcases List.mem_cons.1 hm with h2 | h2
    · rw [h1, h2]
    · rw [h1] at e; exact absurd e (ha'.1 m h2).1
    · rw [h2] at e; exact absurd e.symm (ha'.1 x h1).1
    · exact apart_eq ha'.2 h1 h2 e
def predsOf (ops : Array Oper) (j : Nat) : List Nat := match ops[j]? with
  | none => []
  | some o => (o.after.toList.filter (Region.binds .any)).map (·.on)
def isMk (ms : List Mk) (j : Nat) : Bool := ms.any fun m => Nat.beq m.i j
def memN (l : List Nat) (j : Nat) : Bool := l.any fun x => Nat.beq x j
theorem memN_iff {l : List Nat} {j : Nat} : memN l j = true ↔ j ∈ l := by
  unfold memN
  rw [List.any_eq_true]
  exact ⟨fun ⟨x, h1, h2⟩ => by rw [← Nat.eq_of_beq_eq_true h2]; exact h1, fun h => ⟨j, h, Nat.beq_refl j⟩⟩
theorem isMk_iff {ms : List Mk} {j : Nat} : isMk ms j = true ↔ ∃ m ∈ ms, m.i = j := by
  unfold isMk
  rw [List.any_eq_true]
  exact ⟨fun ⟨x, h1, h2⟩ => ⟨x, h1, Nat.eq_of_beq_eq_true h2⟩, fun ⟨x, h1, h2⟩ => ⟨x, h1, by rw [h2]; exact Nat.beq_refl j⟩⟩
def okMk (ops : Array Oper) (n : Nat) (base : List Nat) (ms : List Mk) (m : Mk) : Bool :=
  (match ops[m.i]? with
  | some o => o.guard.isNone && (match o.dst with | some d => Nat.beq d m.d | none => false)
  | none => false) && Nat.blt m.d n && !memN base m.i && (predsOf ops m.i).all (fun q => memN base q || (isMk ms q && Nat.blt q m.i)) && m.deps.all (fun j => memN (predsOf ops m.i) j && isMk ms j)
def okOut (ops : Array Oper) (base : List Nat) (ms : List Mk) (j : Nat) : Bool :=
  memN base j || isMk ms j || (predsOf ops j).any (fun q => !memN base q && !isMk ms q) || ms.all (fun m => memN (predsOf ops j) m.i || ms.any (fun x => memN (predsOf ops j) x.i && memN x.deps m.i))
def apartB : List Mk → Bool
  | [] => true
  | m :: l => l.all (fun x => !Nat.beq m.i x.i && !Nat.beq m.d x.d) && apartB l
theorem apartB_spec : ∀ {ms : List Mk}, apartB ms = true → MkApart ms
  | [], _ => .nil
  | m :: l, h => by
    simp only [apartB, Bool.and_eq_true, List.all_eq_true, Bool.not_eq_true'] at h
    refine List.pairwise_cons.2 ⟨fun x hx => ⟨fun e => ?_, fun e => ?_⟩, apartB_spec h.2⟩
    · have := (h.1 x hx).1; rw [e, Nat.beq_refl] at this; cases this
    · have := (h.1 x hx).2; rw [e, Nat.beq_refl] at this; cases this
def mkChk (ops : Array Oper) (n : Nat) (base : List Nat) (ms : List Mk) (listed lf : Array Bool) : Bool :=
  base.all (fun j => Nat.blt j ops.size) && apartB ms && ms.all (okMk ops n base ms) && Nat.beq listed.size ops.size && Nat.beq lf.size ops.size &&
  (List.range ops.size).all (fun j => okOut ops base ms j && (listed.getD j true == memN base j) && (lf.getD j true == (memN base j || isMk ms j)))
section
variable {P : Program} {Q : Exit → Act → World → Prop} {n : Cx} {ops : Array Oper} {w0 : World} {Ln : List Nat} {S : List Fact}
theorem TOpP.weakL {R : World → Prop} {L L' : Slots} {op : Op} {ι : Type} {p : ι → Prop} {V : ι → Value} {R' : ι → World → Prop} (hl : ∀ t u, get L' t = some u → get L t = some u) (h : TOpP P Q n R L' op ι p V R') : TOpP P Q n R L op ι p V R' :=
  fun d ty pos af g a w K hs hr hk => h d ty pos af g a w K (hs.weaken hl) hr hk
theorem wpd_makers {k fuel : Nat} {R0 : World → Prop} {M0 : List Ent} {L0 : Slots} {listed lf : Array Bool} (base : List Nat) (ms : List Mk) (N : Nat) (hN : ms.length = N) (hc : mkChk ops n.n base ms listed lf = true)
    (hfree : ∀ m ∈ ms, get L0 m.d = none) (hR : ∀ σ w, Mem w0 Ln (mkEnts σ ms ++ M0) S w → R0 w)
    (hstep : ∀ m ∈ ms, ∀ o, ops[m.i]? = some o → ∀ σ : Asg, σ.ok ms → (∀ j ∈ m.deps, (σ j).isSome = true) → TOpP P Q n (Mem w0 Ln (mkEnts σ ms ++ M0) S) (mkSlots σ ms ++ L0) o.op Value (m.p (m.deps.map σ.v)) (fun v => v) (fun v => Mem w0 Ln (m.E (m.deps.map σ.v) v :: (mkEnts σ ms ++ M0)) S))
    (hdone : ∀ σ : Asg, σ.ok ms → (∀ m ∈ ms, (σ m.i).isSome = true) → WPD P ops Q n k R0 (Mem w0 Ln (mkEnts σ ms ++ M0) S) (mkSlots σ ms ++ L0) fuel lf) :
    WPD P ops Q n k R0 (Mem w0 Ln M0 S) L0 (fuel + N) listed := by
  simp only [mkChk, Bool.and_eq_true, List.all_eq_true, List.mem_range] at hc
  obtain ⟨⟨⟨⟨⟨c6, c1⟩, c2⟩, c3⟩, c4⟩, c5⟩ := hc
  have hap := apartB_spec c1
  have c3 := Nat.eq_of_beq_eq_true c3
  have c4 := Nat.eq_of_beq_eq_true c4
  have key : ∀ (u : Nat) (σ : Asg) (ls : Array Bool), mkLeft σ ms = u → σ.ok ms → ls.size = ops.size → (∀ j, j < ops.size → ls.getD j true = (memN base j || (isMk ms j && (σ j).isSome))) →
      WPD P ops Q n k R0 (Mem w0 Ln (mkEnts σ ms ++ M0) S) (mkSlots σ ms ++ L0) (fuel + u) ls := by
    intro u
    induction u with
    | zero =>
      intro σ ls hu hσ hsz hls
      have hall := left_zero ms hu
      have : ls = lf := by
        apply Array.ext zz12
        intro j h1 h2
        have a1 := hls j zz12
        have a2 := (c5 j zz12).2
        rw [beq_iff_eq] at a2
        have e1 : ls.getD j true = ls[j] := by simp [Array.getD, h1]
        have e2 : lf.getD j true = lf[j] := by simp [Array.getD, h2]
        rw [e1] at a1
        rw [e2] at a2
        rw [a1, a2]
        cases hm : isMk ms j with
        | false => simp
        | true =>
          obtain ⟨m, hm1, hm2⟩ := isMk_iff.1 hm
          have := hall m hm1
          rw [hm2] at this
          rw [this]; simp
      subst this
      exact hdone σ hσ hall
    | succ u ih =>
      intro σ ls hu hσ hsz hls a w hs hw
      have hlt : ∀ {j : Nat} {o : Oper}, ops[j]? = some o → j < ops.size := fun h => (Array.getElem?_eq_some_iff.1 h).1
      have hF : ∀ j, j < ops.size → ls.getD j false = (memN base j || (isMk ms j && (σ j).isSome)) := fun j hj => by
        rw [← hls j hj]
        have : j < ls.size := by omega
        simp [Array.getD, this]
      refine ⟨fun h0 => ?_, fun i hi => ?_⟩
      · obtain ⟨m, hm, h1, h2⟩ := first_left ms hu
        have hk := c2 m hm
        unfold okMk at hk
        cases ho : ops[m.i]? with
        | none => rw [ho] at hk; simp at hk
        | some o =>
          rw [ho] at hk
          simp only [Bool.and_eq_true, Bool.not_eq_true', List.all_eq_true, Bool.or_eq_true] at hk
          obtain ⟨⟨⟨⟨k1, k2⟩, k3⟩, k4⟩, k5⟩ := hk
          have : m.i ∈ Region.ready .any ops ls := by
            refine mem_ready.2 ⟨?_, o, ho, fun e he hb => ?_⟩
            · rw [hls _ (hlt ho), k3, h1]; simp
            · have hq : e.on ∈ predsOf ops m.i := by
                unfold predsOf
                rw [ho]
                exact List.mem_map.2 ⟨e, List.mem_filter.2 ⟨by simpa using he, hb⟩, rfl⟩
              rcases k4 e.on hq with k | k
              · have hon : e.on < ops.size := Nat.le_of_ble_eq_true (c6 e.on (memN_iff.1 k))
                rw [hF _ hon, k]; simp
              · obtain ⟨x, hx1, hx2⟩ := isMk_iff.1 k.1
                have hxlt : e.on < m.i := Nat.le_of_ble_eq_true k.2
                have hsome : (σ e.on).isSome = true := by
                  cases hso : σ e.on with
                  | some v => rfl
                  | none =>
                    have := h2 x hx1 (by rw [hx2]; exact hso)
                    omega
                have hon : e.on < ops.size := by have := hlt ho; omega
                rw [hF _ hon, k.1, hsome]; simp
          rw [h0] at this; cases this
      · obtain ⟨hun, o, ho, hall⟩ := mem_ready.1 hi
        have hil := hlt ho
        rw [hls i hil] at hun
        simp only [Bool.or_eq_false_iff, Bool.and_eq_false_iff] at hun
        have hpl : ∀ q ∈ predsOf ops i, ls.getD q false = true := by
          intro q hq
          unfold predsOf at hq
          rw [ho] at hq
          obtain ⟨e, he, rfl⟩ := List.mem_map.1 hq
          obtain ⟨he1, he2⟩ := List.mem_filter.1 he
          exact hall e (by simpa using he1) he2
        have hpd : ∀ q ∈ predsOf ops i, memN base q = true ∨ (isMk ms q = true ∧ (σ q).isSome = true) := by
          intro q hq
          have h1 := hpl q hq
          have hqs : q < ops.size := by
            rcases Nat.lt_or_ge q ops.size with h | h
            · exact h
            · have : ¬ q < ls.size := by omega
              simp [Array.getD, this] at h1
          rw [hF q hqs] at h1
          simpa using h1
        cases hmk : isMk ms i with
        | true =>
          obtain ⟨m, hm, rfl⟩ := isMk_iff.1 hmk
          have hnone : σ m.i = none := by
            rcases hun.2 with h | h
            · rw [hmk] at h; cases h
            · simpa using h
          have hk := c2 m hm
          unfold okMk at hk
          rw [ho] at hk
          obtain ⟨od, oo, oty, opos, oaf, og⟩ := o
          cases og with
          | some g => simp at hk
          | none =>
            cases od with
            | none => simp at hk
            | some dd =>
              simp only [Bool.and_eq_true, Bool.not_eq_true', List.all_eq_true, Bool.or_eq_true] at hk
              obtain ⟨⟨⟨⟨k1, k2⟩, k3⟩, k4⟩, k5⟩ := hk
              have hdd : dd = m.d := Nat.eq_of_beq_eq_true k1.2
              subst hdd
              have hdeps : ∀ j ∈ m.deps, (σ j).isSome = true := fun j hj => by
                have h5 := k5 j hj
                rcases hpd j (memN_iff.1 h5.1) with h | h
                · obtain ⟨x, hx, rfl⟩ := isMk_iff.1 h5.2
                  have hx2 := c2 x hx
                  unfold okMk at hx2
                  simp only [Bool.and_eq_true, Bool.not_eq_true'] at hx2
                  rw [hx2.1.1.2] at h; cases h
                · exact h.2
              have hst := hstep m hm _ ho σ hσ hdeps
              unfold wpOp
              simp only [ho, Region.wanted, if_true]
              refine .inl (hst _ _ _ _ _ a w _ hs hw fun v w' hp h' => ?_)
              have hperm := ents_upd (v := v) hnone hdeps ms hap hm (fun x hx u hu => (hσ x hx u hu).1)
              have hmem : Mem w0 Ln (mkEnts (σ.upd m.i v) ms ++ M0) S w' := h'.perm (hperm.append_right M0)
              refine ⟨.inr (hR _ _ hmem), ih (σ.upd m.i v) _ ?_ ?_ ?_ ?_ _ w' ?_ hmem⟩
              · have := left_upd (v := v) hnone ms hap hm
                omega
              · intro x hx u hux
                by_cases e : x.i = m.i
                · have : x = m := apart_eq hap hx hm e
                  subst this
                  rw [upd_self] at hux
                  cases hux
                  rw [upd_deps hnone hdeps]
                  refine ⟨fun j hj => ?_, hp⟩
                  by_cases e2 : j = x.i
                  · rw [e2, upd_self]; rfl
                  · rw [upd_ne σ _ e2]; exact hdeps j hj
                · rw [upd_ne σ v e] at hux
                  obtain ⟨h1, h2⟩ := hσ x hx u hux
                  rw [upd_deps hnone h1]
                  refine ⟨fun j hj => ?_, h2⟩
                  by_cases e2 : j = m.i
                  · rw [e2, upd_self]; rfl
                  · rw [upd_ne σ v e2]; exact h1 j hj
              · simpa using hsz
              · intro j hj
                by_cases e : j = m.i
                · subst e
                  have : m.i < ls.size := by omega
                  rw [upd_self, hmk]
                  simp [Array.getD, this]
                · rw [upd_ne σ v e, ← hls j hj, getD_set_ne true (fun h => e h.symm)]
              · exact (hs.put k2 v).weaken fun t u h => by rw [slots_upd hnone t ms hap hm] at h; exact h
        | false =>
          exfalso
          have h5 := (c5 i hil).1.1
          unfold okOut at h5
          simp only [Bool.or_eq_true, hun.1, hmk, List.any_eq_true, List.all_eq_true, Bool.and_eq_true, Bool.not_eq_true'] at h5
          rcases h5 with (h5 | h5) | h5
          · rcases h5 with h | h <;> cases h
          · obtain ⟨q, hq, h1, h2⟩ := h5
            rcases hpd q hq with h | h
            · rw [h1] at h; cases h
            · rw [h2] at h; cases h.1
          · obtain ⟨m, hm, h1, _⟩ := first_left ms hu
            rcases h5 m hm with h | ⟨x, hx, h2, h3⟩
            · rcases hpd m.i (memN_iff.1 h) with h | h
              · have hx2 := c2 m hm
                unfold okMk at hx2
                simp only [Bool.and_eq_true, Bool.not_eq_true'] at hx2
                rw [hx2.1.1.2] at h; cases h
              · rw [h1] at h; cases h.2
            · rcases hpd x.i (memN_iff.1 h2) with h | h
              · have hx2 := c2 x hx
                unfold okMk at hx2
                simp only [Bool.and_eq_true, Bool.not_eq_true'] at hx2
                rw [hx2.1.1.2] at h; cases h
              · obtain ⟨v, hv⟩ := Option.isSome_iff_exists.1 h.2
                have := (hσ x hx v hv).1 m.i (memN_iff.1 h3)
                rw [h1] at this; cases this
  have h0 : mkLeft (fun _ => none) ms = N := by rw [left_none, hN]
  have e1 : ∀ l : List Mk, mkEnts (fun _ => none) l = [] := by intro l; induction l with | nil => rfl | cons m l ih => unfold mkEnts; exact ih
  have e2 : ∀ l : List Mk, mkSlots (fun _ => none) l = [] := by intro l; induction l with | nil => rfl | cons m l ih => unfold mkSlots; exact ih
  have := key N (fun _ => none) listed h0 (fun m _ v hv => by cases hv) c3 (fun j hj => by
    have := (c5 j hj).1.2
    rw [beq_iff_eq] at this
    rw [this]; simp)
  rw [e1, e2] at this
  exact this
end
end Go.PL
namespace Go.PL
open Go Go.RowKit
theorem Mem.gain {w0 w : World} {Ln : List Nat} {M G : List Ent} (h : Mem w0 Ln M [] w) (hG : ∀ e ∈ G, e.at w ∧ ∀ k, e.num = some k → w0.heap.size ≤ k ∧ inM M k = false) (hp : G.Pairwise fun e f => ∀ k, e.num = some k → f.num ≠ some k) : Mem w0 Ln (M ++ G) [] w :=
  ⟨h.os, h.tape, h.output, h.size, h.old, fun e he => (List.mem_append.1 he).elim (h.own e) (fun he => (hG e he).1),
    fun e he k hk => (List.mem_append.1 he).elim (fun he => h.new e he k hk) (fun he => .inl ((hG e he).2 k hk).1),
    List.pairwise_append.2 ⟨h.apart, hp, fun e he f hf k hk hfk => inM_not ((hG f hf).2 k hfk).2 e he hk⟩, fun _ hs => (by cases hs)⟩
def GainOk (T : List Nat) (G : List Ent) (w : World) : Prop := (∀ e ∈ G, e.at w ∧ ∀ k, e.num = some k → k ∈ T) ∧ G.Pairwise fun e f => ∀ k, e.num = some k → f.num ≠ some k
def RowAt (T : List Nat) (e : Ent) (w : World) : Prop := e.at w ∧ ∀ k, e.num = some k → k ∈ T
theorem RowAt.keep {T : List Nat} {e : Ent} {w w' : World} (h : RowAt T e w) (hk : ∀ j, j ∈ T → w'.heap[j]? = w.heap[j]?) : RowAt T e w' := ⟨Ent.kept h.1 fun k hn => hk k (h.2 k hn), h.2⟩
theorem RowAt.gain {T : List Nat} {e : Ent} {w : World} (h : RowAt T e w) : GainOk T [e] w := ⟨fun f hf => by rw [List.mem_singleton] at hf; subst hf; exact h, zz40⟩
theorem Mem.rowAt {w0 w : World} {Ln : List Nat} {M : List Ent} {S : List Fact} (h : Mem w0 Ln M S w) {e : Ent} (he : e ∈ M) : RowAt (nums M) e w := ⟨h.own e he, fun k hk => mem_nums.2 ⟨e, he, hk⟩⟩
theorem RowAt.seen {T Ln : List Nat} {v : Value} {m : Nat} {e : TypeId} {sz : Nat} {xs : List Value} {w1 w : World} {M : List Ent} {S : List Fact} (h : RowAt T (.row v m e sz xs) w1) (hm : Mem w1 Ln M S w) (hT : ∀ j, j ∈ T → j ∉ Ln) : Seen w.cell? v m sz xs := by
  have h1 : (Ent.row v m e sz xs).at w := Ent.kept h.1 fun k hk => hm.old k (Ent.lt h.1 hk) (hT k (h.2 k hk))
  exact (Mem.startR w h1).seen_row (List.mem_singleton.2 rfl)
theorem wpc_rangeG {P : Program} {Q : Exit → Act → World → Prop} {gx : Operand} {ps : Array Tmp} {assign body : Code} {k : Nat} {L : Slots} {w0 : World} {Ln : List Nat} {S : List Fact} {α ι ρ σ β : Type} {gf : FuncId} {lb : Array Value}
    {encs : α → ι → Array Value} {At : List Nat → α → ι → World → Prop} {Inv : World → Prop} {xs : List α} (E0 : List Ent) (M : σ → List Ent) (g : List α → σ → Prop) (s0 : σ) (pr : ρ → Prop) (cd : ρ → Code) (Mr : ρ → List Ent) (G : ρ → List Ent) (Ma : α → ι → β → List Ent) (L1 : α → ι → β → Slots)
    (hg : ev L gx = some (.func (.func gf) #[] lb)) (hbd : HasBody P gf) (h0 : g [] s0)
    (hE0 : ∀ w, Mem w0 Ln (E0 ++ M s0) S w → ∀ k, k ∈ nums E0 → w0.heap.size ≤ k)
    (hit : ∀ w, Mem w0 Ln (E0 ++ M s0) S w → IterStop P gf lb encs At Inv xs (nums E0) w) (hInv : ∀ pre s w, g pre s → Mem w0 Ln (M s) [] w → Inv w)
    (hAt : ∀ T x i w w', At T x i w → (∀ j, j ∈ T → w'.heap[j]? = w.heap[j]?) → At T x i w')
    (hps : ∀ x i, (encs x i).size = ps.size) (hpk : ∀ p ∈ ps.toList, p < k)
    (hassign : ∀ (l : Nat) (x : α) (i : ι) (w1 : World) (K : Act → World → Prop), (∀ b a w, Sl ⟨k, []⟩ a (L1 x i b) → Mem w1 [] (Ma x i b) [] w → K a w) →
      WPCI (Fence.wide.inRound l) P (Exit.then K (fun _ _ _ => False)) ⟨k, []⟩ (Mem w1 [] [] []) (addSlots ps.toList (encs x i).toList L) assign)
    (hbody : ∀ (l : Nat) (pre : List α) (x : α) (i : ι) (s : σ) (b : β) (w1 : World) (T : List Nat), g pre s → (pre ++ [x]) <+: xs → Mem w0 Ln (Ma x i b ++ M s) [] w1 → At T x i w1 → (∀ j, j ∈ T → w0.heap.size ≤ j ∧ inM (Ma x i b ++ M s) j = false) →
      WPCI (Fence.wide.inRound l) P (RoundPostS (fun w' => ∃ s', g (pre ++ [x]) s' ∧ Mem w1 (nums (Ma x i b ++ M s)) (M s') [] w') (fun c w' => ∃ r, pr r ∧ cd r = c ∧ Mem w1 (nums (Ma x i b ++ M s)) (Mr r) [] w' ∧ GainOk T (G r) w1)) ⟨k, []⟩ (Mem w1 (nums (Ma x i b ++ M s)) (Ma x i b ++ M s) []) (L1 x i b) body)
    (hdone : ∀ D s, g xs s → EX Q .normal ⟨k, [mark D]⟩ (Mem w0 Ln (.obj D (.deferred (some [])) :: M s) []) L)
    (hstop : ∀ D r, pr r → WPC P Q ⟨k, [mark D]⟩ (Mem w0 Ln (.obj D (.deferred (some [])) :: (Mr r ++ G r)) []) L (cd r)) :
    WPC P Q ⟨k, []⟩ (Mem w0 Ln (E0 ++ M s0) S) L (.rangeFunc gx ps assign body) := by
  intro a w hs hr
  refine (wpIn_wide (n := 0)).1 (wpIn_rangeFunc ?_)
  intro fn hfn
  obtain ⟨rec, hrec⟩ : ∃ rec : LoopState → Option Code → Loop, rec = fun st pe => { state := st, pending := pe, fn, tmps := a.tmps, params := ps, assign, body, defers := w.heap.size } := ⟨_, rfl⟩
  obtain ⟨W1, hW1⟩ : ∃ W1, (w.alloc (.deferred (some []))).alloc (.loop (rec .ready none)) = W1 := ⟨_, rfl⟩
  have hM1 : Mem w0 Ln (.obj (w.heap.size + 1) (.loop (rec .ready none)) :: .obj w.heap.size (.deferred (some [])) :: (E0 ++ M s0)) S W1 := by
    have := (hr.allocO (.deferred (some []))).allocO (.loop (rec .ready none))
    rw [World.size_alloc] at this
    rw [← hW1]; exact this
  have hsz1 : W1.heap.size = w.heap.size + 2 := by rw [← hW1]; simp
  have hw0 := hr.size
  have hr1 : Mem w0 Ln (E0 ++ M s0) S W1 := hM1.sub (.drop (.drop (Sub.refl _))) (Sub.refl _)
  refine ⟨w.heap.size + 1, [mark w.heap.size], W1, { target := .fn (.func gf) lb, args := #[.func (.yield (w.heap.size + 1)) #[] #[]] }, W1, gf, #[.func (.yield (w.heap.size + 1)) #[] #[]] ++ lb, W1, ?_, ?_, fun _ _ => trivial, ?_, fun e => by simp [Fence.wide] at e, ?_⟩
  · rw [← hW1, hrec]; exact run_enterLoop_outer _ _ _ _ _
  · simp only [resolve, rangeCall, hs.eval hg]
    simp [go_sem]
  · simp [invoke, run_callFunc hbd]
  · refine callsIn_wide.2 ?_
    let J : List Nat → List α → World → Prop := fun T pre w' => ∃ s, g pre s ∧ Mem w0 Ln (.obj (w.heap.size + 1) (.loop (rec .ready none)) :: .obj w.heap.size (.deferred (some [])) :: M s) [] w' ∧ W1.heap.size ≤ w'.heap.size ∧
      ∀ j, j ∈ T → w0.heap.size ≤ j ∧ j ≠ w.heap.size ∧ j ≠ w.heap.size + 1 ∧ inM (M s) j = false ∧ j < w'.heap.size
    let Kx : World → Prop := fun w' => ∃ r, pr r ∧ Mem w0 Ln (.obj (w.heap.size + 1) (.loop (rec .done (some (cd r)))) :: .obj w.heap.size (.deferred (some [])) :: (Mr r ++ G r)) [] w'
    have hJ0 : J (nums E0) [] W1 := by
      refine ⟨s0, h0, hM1.sub (.keep (.keep (sub_app _ _))) .nil, Nat.le_refl _, fun j hj => ?_⟩
      obtain ⟨e, he, hn⟩ := mem_nums.1 hj
      have hlt := Ent.lt (hr.own e (List.mem_append_left _ he)) hn
      refine ⟨hE0 w hr j hj, zz12, zz12, ?_, zz12⟩
      cases hm : inM (M s0) j
      · rfl
      · obtain ⟨f, hf, hfn⟩ := inM_iff.1 hm
        exact absurd hfn ((List.pairwise_append.1 hr.apart).2.2 e he f hf j hn)
    refine (hit W1 hr1 (w.heap.size + 1) J Kx ?_ ?_ ?_ ?_ hJ0).mono ?_
    · rintro T T' pre w1 w2 ⟨s, hgs, j1, j2, j3⟩ hc hT
      have hnot : ∀ j, j ∈ T → w0.heap.size ≤ j ∧ inM (.obj (w.heap.size + 1) (.loop (rec .ready none)) :: .obj w.heap.size (.deferred (some [])) :: M s) j = false := fun j hj => by
        obtain ⟨a1, a2, a3, a4, _⟩ := j3 j hj
        refine ⟨a1, ?_⟩
        simp only [inM, List.any_cons, Bool.or_eq_false_iff, Ent.num]
        refine ⟨zz50, zz50, a4⟩
      refine ⟨s, hgs, j1.chg hc hnot, Nat.le_trans j2 hc.size, fun j hj => ?_⟩
      obtain ⟨h1, h2⟩ := hT j hj
      rcases h1 with h1 | h1
      · obtain ⟨a1, a2, a3, a4, _⟩ := j3 j h1
        exact ⟨a1, a2, a3, a4, h2⟩
      · refine ⟨zz12, zz12, zz12, ?_, h2⟩
        cases hm : inM (M s) j
        · rfl
        · obtain ⟨e, he, hn⟩ := inM_iff.1 hm
          have := Ent.lt (j1.own e (List.mem_cons_of_mem _ (List.mem_cons_of_mem _ he))) hn
          omega
    · rintro T pre w1 ⟨s, hgs, j1, _⟩
      exact hInv pre s w1 hgs (j1.sub (.drop (.drop (Sub.refl _))) .nil)
    · rintro w1 w2 ⟨r, hp, hk⟩ hc
      exact ⟨r, hp, hk.chg hc (fun _ h => by cases h)⟩
    · rintro T pre x i w1 ⟨s, hgs, j1, j2, j3⟩ hpre hat
      have hl : w1.heap[w.heap.size + 1]? = some (.loop (rec .ready none)) := j1.own _ (List.mem_cons_self ..)
      have hy := run_yield (P := P) (args := encs x i) hl (by rw [hrec]; exact hps x i)
      rw [hrec] at hy
      refine ⟨fn, _, assign, body, hy, roundIn_of_wpIn hfn ?_⟩
      have hsl : Sl ⟨k, []⟩ { tmps := ((ps.zip (encs x i)).foldl (fun t (p, v) => t.setIfInBounds p v) a.tmps), defers := [] } (addSlots ps.toList (encs x i).toList L) := by
        have hs0 : Sl ⟨k, []⟩ { tmps := a.tmps, defers := [] } L := ⟨hs.size, rfl, hs.tmp⟩
        have := sl_adds ps.toList (encs x i).toList L a.tmps k (by simpa using (hps x i).symm) hpk hs0
        rw [← Array.foldl_toList, Array.toList_zip]
        exact this
      refine hassign (w.heap.size + 1) x i w1 _ (fun b a1 wa hs1 hwa => ?_) _ w1 hsl (Mem.start w1)
      have jA := j1.beside hwa
      have hla : wa.heap[w.heap.size + 1]? = some (.loop (rec .ready none)) := jA.own _ (List.mem_append_right _ (List.mem_cons_self ..))
      have jA2 : Mem w0 Ln (.obj (w.heap.size + 1) (.loop (rec .ready none)) :: .obj w.heap.size (.deferred (some [])) :: (Ma x i b ++ M s)) [] wa :=
        jA.perm (List.perm_middle.trans (.cons _ List.perm_middle))
      obtain ⟨w2, hw2⟩ : ∃ w2, wa.putObj (w.heap.size + 1) (.loop { rec .ready none with state := .busy }) = w2 := ⟨_, rfl⟩
      have j4 : Mem w0 Ln ([.obj (w.heap.size + 1) (.loop { rec .ready none with state := .busy }), .obj w.heap.size (.deferred (some []))] ++ (Ma x i b ++ M s)) [] w2 := by
        rw [← hw2]; exact jA2.putO .here
      have hbr : (Instr.beginRound (w.heap.size + 1)).run P wa = .ok () w2 := by rw [← hw2]; exact run_beginRound hla (by rw [hrec])
      have hm2 : Mem w0 Ln (Ma x i b ++ M s) [] w2 := j4.sub (.drop (.drop (Sub.refl _))) .nil
      have hsa := hwa.size
      have hs2 : w2.heap.size = wa.heap.size := by rw [← hw2]; simp
      have hT2 : ∀ j, j ∈ T → w2.heap[j]? = w1.heap[j]? := fun j hj => by
        rw [← hw2, World.putObj_heap_other (j3 j hj).2.2.1]
        exact hwa.old j (j3 j hj).2.2.2.2 zz40
      have hTM : ∀ j, j ∈ T → inM (Ma x i b ++ M s) j = false := fun j hj => by
        rw [inM_append, Bool.or_eq_false_iff]
        refine ⟨?_, (j3 j hj).2.2.2.1⟩
        cases hm : inM (Ma x i b) j
        · rfl
        · obtain ⟨e, he, hn⟩ := inM_iff.1 hm
          have h1 := (hwa.new e he j hn).resolve_right zz40
          have := (j3 j hj).2.2.2.2
          omega
      have hbd2 := hbody (w.heap.size + 1) pre x i s b w2 T hgs hpre hm2 (hAt T x i w1 w2 hat hT2) (fun j hj => ⟨(j3 j hj).1, hTM j hj⟩)
      refine ⟨w2, hbr, wpIn_mono (hbd2 a1 w2 hs1 (by have := hm2.base; exact this)) ?_⟩
      have hnT : ∀ j, j ∈ T → j ∉ nums (Ma x i b ++ M s) := fun j hj hm => by
        obtain ⟨e, he, hn⟩ := mem_nums.1 hm
        exact inM_not (hTM j hj) e he hn
      have stop : ∀ (c : Code) (w3 : World), (∃ r, pr r ∧ cd r = c ∧ Mem w2 (nums (Ma x i b ++ M s)) (Mr r) [] w3 ∧ GainOk T (G r) w2) → (Instr.endRound (w.heap.size + 1) (some c)).run P w3 = .ok (.bool false) (w3.putObj (w.heap.size + 1) (.loop (rec .done (some c)))) ∧ Kx (w3.putObj (w.heap.size + 1) (.loop (rec .done (some c)))) := by
        rintro c w3 ⟨r, hp, rfl, hm3, hg1, hg2⟩
        have j5 := j4.framed hm3
        have j6 := Mem.gain j5 (G := G r) (fun e he => ⟨Ent.kept (hg1 e he).1 fun q hq => by
            have hqT := (hg1 e he).2 q hq
            exact hm3.old q (by have := (j3 q hqT).2.2.2.2; omega) (hnT q hqT), fun q hq => by
            have hqT := (hg1 e he).2 q hq
            refine ⟨(j3 q hqT).1, ?_⟩
            rw [inM_append, Bool.or_eq_false_iff]
            refine ⟨?_, ?_⟩
            · simp only [inM, List.any_cons, List.any_nil, Bool.or_eq_false_iff, Ent.num]
              have a2 := (j3 q hqT).2.1
              have a3 := (j3 q hqT).2.2.1
              refine ⟨zz50, zz50, trivial⟩
            · cases hm : inM (Mr r) q
              · rfl
              · obtain ⟨f, hf, hn⟩ := inM_iff.1 hm
                rcases hm3.new f hf q hn with h | h
                · have := (j3 q hqT).2.2.2.2; omega
                · exact absurd h (hnT q hqT)⟩) hg2
        have j7 : Mem w0 Ln (.obj (w.heap.size + 1) (.loop { rec .ready none with state := .busy }) :: .obj w.heap.size (.deferred (some [])) :: (Mr r ++ G r)) [] w3 := j6
        have hl3 : w3.heap[w.heap.size + 1]? = some (.loop { rec .ready none with state := .busy }) := j5.own _ (List.mem_cons_self ..)
        have hend := run_endRound (P := P) (some (cd r)) hl3
        rw [hrec] at hend
        refine ⟨?_, r, hp, j7.putO .here⟩
        rw [hrec]; exact hend
      rintro e a3 w3 hp
      cases e with
      | normal =>
        obtain ⟨s', hgs', hp'⟩ : ∃ s', g (pre ++ [x]) s' ∧ Mem w2 (nums (Ma x i b ++ M s)) (M s') [] w3 := hp
        have j5 := j4.framed hp'
        have hl3 : w3.heap[w.heap.size + 1]? = some (.loop { rec .ready none with state := .busy }) := j5.own _ (List.mem_cons_self ..)
        have hend := run_endRound (P := P) none hl3
        have hback : { { rec .ready none with state := .busy } with state := if (none : Option Code).isNone then .ready else .done, pending := none } = rec .ready none := by rw [hrec]; rfl
        rw [hback] at hend
        have hTs : ∀ j, j ∈ T → (w3.putObj (w.heap.size + 1) (.loop (rec .ready none))).heap[j]? = w1.heap[j]? := fun j hj => by
          rw [World.putObj_heap_other (j3 j hj).2.2.1, hp'.old j (by have := (j3 j hj).2.2.2.2; omega) (hnT j hj)]
          exact hT2 j hj
        have hsz3 := hp'.size
        refine ⟨_, _, hend, .inl ⟨rfl, ⟨s', hgs', ?_, ?_, fun j hj => ⟨(j3 j hj).1, (j3 j hj).2.1, (j3 j hj).2.2.1, ?_, ?_⟩⟩, by rw [World.putObj_size]; omega, hTs⟩⟩
        · exact j5.putO .here
        · rw [World.putObj_size]; omega
        · cases hm : inM (M s') j
          · rfl
          · obtain ⟨e, he, hn⟩ := inM_iff.1 hm
            rcases hp'.new e he j hn with h | h
            · have := (j3 j hj).2.2.2.2; omega
            · exact absurd h (hnT j hj)
        · rw [World.putObj_size]; have := (j3 j hj).2.2.2.2; omega
      | ret =>
        obtain ⟨h1, h2⟩ := stop .ret w3 hp
        exact ⟨_, _, h1, .inr ⟨rfl, h2⟩⟩
      | exit id =>
        obtain ⟨h1, h2⟩ := stop (.exit id) w3 hp
        exact ⟨_, _, h1, .inr ⟨rfl, h2⟩⟩
      | goto t => exact (hp : False).elim
      | panic ch => exact (hp : False).elim
      | outgrown => exact (hp : False).elim
    · rintro e w2 ⟨⟨v, rfl⟩, (⟨T, s, hgs, j1, j2, j3⟩ | ⟨r, hp, hk⟩)⟩
      · have hl : w2.heap[w.heap.size + 1]? = some (.loop (rec .ready none)) := j1.own _ (List.mem_cons_self ..)
        have hend := run_endLoop (P := P) hl (by rw [hrec]; simp)
        have hpn : (rec .ready none).pending = none := by rw [hrec]
        rw [hpn] at hend
        refine ⟨none, _, hend, ?_⟩
        have hd : a.defers = [] := hs.defers
        refine hdone w.heap.size s hgs _ _ ⟨hs.size, by simp [hd], hs.tmp⟩ ?_
        exact (j1.putO .here).sub (.drop (Sub.refl _)) .nil
      · have hl : w2.heap[w.heap.size + 1]? = some (.loop (rec .done (some (cd r)))) := hk.own _ (List.mem_cons_self ..)
        have hend := run_endLoop (P := P) hl (by rw [hrec]; simp)
        have hpn : (rec .done (some (cd r))).pending = some (cd r) := by rw [hrec]
        rw [hpn] at hend
        refine ⟨some (cd r), _, hend, ?_⟩
        have hd : a.defers = [] := hs.defers
        refine (wpIn_wide (n := 0)).2 (hstop w.heap.size r hp _ _ ⟨hs.size, by simp [hd], hs.tmp⟩ ?_)
        exact (hk.putO .here).sub (.drop (Sub.refl _)) .nil
end Go.PL
