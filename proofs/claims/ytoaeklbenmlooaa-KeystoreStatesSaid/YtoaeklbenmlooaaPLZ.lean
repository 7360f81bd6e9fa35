/- Slices of natural numbers and of arrays; appending to what is full; calls of function values. -/
import Derived.Test.YtoaeklbenmlooaaPLY
namespace Go.PL
set_option linter.unusedSimpArgs false
set_option linter.unusedVariables false
open Go Go.RowKit
section
variable {P : Program} {n : Cx} {R : World → Prop} {L : Slots} {Q : Exit → Act → World → Prop} {ops : Array Oper} {rest : List Oper}
variable {w0 w : World} {Ln : List Nat} {M : List Ent} {S : List Fact}
/-- Operation i may be taken first, if the first store waits for it by way of others (the list B), none of which is done. -/
theorem wpAnyI_firstB {ops : Array Oper} {md : Region.Mode} {R0 : World → Prop} {i k : Nat} {oi : Oper} {v : Value} (B : List Nat) (hi : ops[i]? = some oi) (hik : i ≠ k) (hsel : ∀ (j : Nat) (o : Oper) cs b, ops[j]? = some o → o.op ≠ .select cs b)
    (hk : k ∈ B) (hB : ∀ j oj, j ∈ B → ops[j]? = some oj → ∃ e ∈ oj.after, Region.binds md e = true ∧ (e.on = i ∨ e.on ∈ B)) (hiB : i ∉ B)
    (hQ : ∀ c a w, Q (.panic c) (a.put oi.dst v) w → Q (.panic c) a w) :
    ∀ (fuel : Nat) (listed : Array Bool) (a : Act) (w : World),
      (∀ j oj, ops[j]? = some oj → j ≠ i → listed.getD j true = false → (∀ e ∈ oj.after, Region.binds md e = true → e.on ≠ i) → oi.apart ops oj = true) →
      i ∈ Region.ready md ops listed → (∀ j ∈ B, listed.getD j true = false) → YieldsIf P ops R0 oi v a → SK k R0 listed w →
      wpAnyI P md ops Q (SK k R0) fuel (listed.setIfInBounds i true) (a.put oi.dst v) w → wpAnyI P md ops Q (SK k R0) (fuel + 1) listed a w := by
  have hkf : ∀ listed : Array Bool, (∀ j ∈ B, listed.getD j true = false) → listed.getD k false = false := fun listed h => by
    have := h k hk
    rcases Nat.lt_or_ge k listed.size with h' | h'
    · simpa [h'] using this
    · simp [Array.getElem?_eq_none h'] at this
  intro fuel
  induction fuel with
  | zero =>
    intro listed a w _ hr hun hy hS H
    have hR : R0 w := hS.resolve_left (by simp [hkf _ hun])
    refine ⟨fun h => (by rw [h] at hr; cases hr), fun j hj => ?_⟩
    by_cases hji : j = i
    · subst hji; exact hy.wpOp hi hR ⟨.inr hR, H⟩
    · have := ready_mono hj hji
      rw [H.1] at this
      cases this
  | succ fuel ih =>
    intro listed a w hfree hr hun hy hS H
    have hR : R0 w := hS.resolve_left (by simp [hkf _ hun])
    refine ⟨fun h => (by rw [h] at hr; cases hr), fun j hj => ?_⟩
    by_cases hji : j = i
    · subst hji; exact hy.wpOp hi hR ⟨.inr hR, H⟩
    · have h1 := H.2 j (ready_mono hj hji)
      obtain ⟨hjun, oj, hoj, hall⟩ := mem_ready.1 hj
      have und : ∀ m, listed.getD m true = false → listed[m]? = some true → False := fun m h0 h1 => by
        rcases Nat.lt_or_ge m listed.size with h' | h'
        · simp [h'] at h0 h1; rw [h0] at h1; cases h1
        · simp [Array.getElem?_eq_none h'] at h1
      have hnot : ∀ e ∈ oj.after, Region.binds md e = true → e.on ≠ i := fun e he hb heq => by
        have h1 := hall e he hb
        have h0 := (mem_ready.1 hr).1
        rw [heq] at h1
        rcases Nat.lt_or_ge i listed.size with h' | h'
        · simp [h'] at h0 h1; rw [h0] at h1; cases h1
        · simp [Array.getElem?_eq_none h'] at h1
      have hjB : j ∉ B := fun hjB => by
        obtain ⟨e, he, hb, heq⟩ := hB j oj hjB hoj
        rcases heq with heq | heq
        · exact hnot e he hb heq
        · have h1 := hall e he hb
          have h0 := hun e.on heq
          rcases Nat.lt_or_ge e.on listed.size with h' | h'
          · simp [h'] at h0 h1; rw [h0] at h1; cases h1
          · simp [Array.getElem?_eq_none h'] at h0
      have hjk : j ≠ k := fun e => hjB (e ▸ hk)
      have h2 := wpOp_putIf hoj (hfree j oj hoj hji hjun hnot) (fun cs b => hsel i oi cs b hi) (fun cs b => hsel j oj cs b hoj) hQ hy h1
      have hfree' : ∀ m om, ops[m]? = some om → m ≠ i → (listed.setIfInBounds j true).getD m true = false →
          (∀ e ∈ om.after, Region.binds md e = true → e.on ≠ i) → oi.apart ops om = true := fun m om hm hmi hun' hno => by
        refine hfree m om hm hmi ?_ hno
        by_cases hjm : j = m
        · subst hjm; exact hjun
        · rw [getD_set_ne true hjm] at hun'; exact hun'
      refine wpOp_mono (fun a' w' h3 => ?_) h2
      have hS' : SK k R0 (listed.setIfInBounds j true) w' := by
        rcases h3.2.1 with h | h
        · refine .inl ?_
          rw [getD_set_ne' hjk, getD_set_ne' hik] at h
          rw [getD_set_ne' hjk]; exact h
        · exact .inr h
      refine ⟨hS', ih (listed.setIfInBounds j true) a' w' hfree' (ready_mono hr (Ne.symm hji)) (fun m hm => ?_) h3.1 hS' ?_⟩
      · have hjm : j ≠ m := fun e => hjB (e ▸ hm)
        rw [getD_set_ne true hjm]; exact hun m hm
      · rw [Array.setIfInBounds_comm _ _ hji]
        exact h3.2.2
def chkB (ops : Array Oper) (listed : Array Bool) (i k : Nat) (B : List Nat) : Bool :=
  B.contains k && !B.contains i && B.all (fun j => !listed.getD j true) && B.all fun j => match ops[j]? with
    | none => true
    | some o => o.after.any fun e => Region.binds .any e && (Nat.beq e.on i || B.contains e.on)
theorem chkB_spec {ops : Array Oper} {listed : Array Bool} {i k : Nat} {B : List Nat} (h : chkB ops listed i k B = true) : k ∈ B ∧ i ∉ B ∧ (∀ j ∈ B, listed.getD j true = false) ∧
    ∀ j oj, j ∈ B → ops[j]? = some oj → ∃ e ∈ oj.after, Region.binds .any e = true ∧ (e.on = i ∨ e.on ∈ B) := by
  simp only [chkB, Bool.and_eq_true, Bool.not_eq_true', List.all_eq_true] at h
  obtain ⟨⟨⟨h1, h2⟩, h3⟩, h4⟩ := h
  refine ⟨by simpa using h1, fun hm => ?_, fun j hj => by simpa using h3 j hj, fun j oj hj hoj => ?_⟩
  · have : B.contains i = true := by simpa using hm
    rw [h2] at this; cases this
  · have := h4 j hj
    rw [hoj] at this
    obtain ⟨e, he, hb⟩ := Array.any_eq_true'.1 this
    simp only [Bool.and_eq_true, Bool.or_eq_true] at hb
    exact ⟨e, he, hb.1, hb.2.imp Nat.eq_of_beq_eq_true fun h => by simpa using h⟩
theorem wpd_qB {ops : Array Oper} {R0 : World → Prop} {k fuel : Nat} {listed : Array Bool} {op : Op} {v : Value} {d : Nat} {ty : TypeId} {pos : String} {af : Array Edge} {g : Option (Nat × Bool)} (i : Nat) (B : List Nat) (hi : ops[i]? = some ⟨some d, op, ty, pos, af, g⟩) (hc : (chk ops listed i && !Nat.beq i k && chkB ops listed i k B) = true) (hg : Wants ops L g)
    (hop : QOp P n R0 L op v) (hd : Nat.blt d n.n = true) [hP : NoP Q] (hR : ∀ w, R w → R0 w)
    (next : WPD P ops Q n k R0 R ((d, v) :: L) fuel (listed.setIfInBounds i true)) : WPD P ops Q n k R0 R L (fuel + 1) listed := by
  intro a w hs hr
  simp only [Bool.and_eq_true, Bool.not_eq_true'] at hc
  obtain ⟨⟨hc, hik⟩, hcB⟩ := hc
  obtain ⟨hsel, hf, hrd⟩ := chk_spec hc
  obtain ⟨b1, b2, b3, b4⟩ := chkB_spec hcB
  have hik' : i ≠ k := fun e => by subst e; simp [Nat.beq_refl] at hik
  exact wpAnyI_firstB (R0 := R0) B hi hik' (Region.noSelect_spec hsel) b1 b4 b2 (fun c a w h => hP.out _ _ _ _ h) fuel listed a w (Region.free_spec hi hf) hrd b3
    (.inl ⟨hg.spec hs, fun w' h' => hop _ _ _ _ _ a w' hs h'⟩) (.inr (hR w hr)) (next _ _ (hs.put hd v) hr)

/-- Natural numbers as ints. -/
def vns (xs : List Nat) : List Value := xs.map fun x => .int .i64 ((x : Nat) : Int)
theorem vns_get {xs : List Nat} {i : Nat} (h : i < xs.length) : (vns xs)[i]? = some (.int .i64 ((xs.getD i 0 : Nat) : Int)) := getD_map_some (fun x : Nat => (.int .i64 ((x : Nat) : Int) : Value)) xs 0 h
theorem vns_append (xs ys : List Nat) : vns (xs ++ ys) = vns xs ++ vns ys := by simp [vns]
theorem vns_set {xs : List Nat} {i : Nat} (x : Nat) : (vns xs).set i (.int .i64 ((x : Nat) : Int)) = vns (xs.set i x) := by simp [vns, List.map_set]
theorem vns_length (xs : List Nat) : (vns xs).length = xs.length := by simp [vns]
theorem vns_one (xs : List Nat) : ∀ u ∈ vns xs, u.oneCell' = true := by
  intro u hu; obtain ⟨x, _, rfl⟩ := List.mem_map.1 hu; rfl
theorem vns_inj {xs ys : List Nat} (h : vns xs = vns ys) : xs = ys := by
  induction xs generalizing ys with
  | nil => cases ys with
    | nil => rfl
    | cons y r => simp [vns] at h
  | cons x r ih => cases ys with
    | nil => simp [vns] at h
    | cons y s =>
      simp only [vns, List.map_cons, List.cons.injEq, Value.int.injEq, true_and] at h
      rw [ih h.2, show x = y by omega]

theorem q_idxVN {t e N : Nat} {x i : Operand} {cs : List Value} {k : IntKind} {j : Nat} {z v : Value} {by_ : Nat} {d : TypeDesc} (hu : P.underlying t = some (.array N e)) (he : TyI P e z 1 by_) (hd : P.underlying e = some d) (ha : isAggD d = false)
    (hx : ev L x = some (.agg cs.toArray)) (hi : ev L i = some (.int k ((j : Nat) : Int))) (h1 : j < N) (hv : cs[j]? = some v) : QOp P n R L (.index t x i) v := q_idxV hu he hd ha hx hi (by omega) (by omega) j (by omega) hv
/-- append(s, x...), s full: always into a new row. -/
theorem t_apF {t e : TypeId} {s x : Operand} {b m : Nat} {u : Value} {k : Nat} {xs news : List Value} {z : Value} {sz by_ : Nat} (hu : P.underlying t = some (.slice e)) (he : TyI P e z sz by_) (hz1 : z.cells.size = sz)
    (hs_ : ev L s = some (arv b m)) (hx : ev L x = some u) (hv : ∀ w, Mem w0 Ln M S w → Seen w.cell? (arv b m) m sz xs) (hsrc : ∀ w, Mem w0 Ln M S w → Seen w.cell? u k sz news) (hk : 0 < k)
    (h63 : m + k ≤ maxLen) (hby : (m + k) * by_ ≤ 140737488355328) (ys : List Value) (hys : xs ++ news = ys) :
    TOpP P Q n (Mem w0 Ln M S) L (.call { callee := .builtin .append, args := #[s, x], argTypes := #[t, t] }) Value (fun v' => SV v' (m + k)) (fun v' => v') (fun v' => Mem w0 Ln (.row v' (m + k) e sz ys :: M) S) := by
  intro d ty pos af g a w K hs hm hK
  subst hys
  obtain ⟨i, hi, hz, hsz', hby'⟩ := he.info
  subst hsz' hby'
  have h1 := hv w hm
  obtain ⟨q1, ad, cap, rfl, q3, q4, q5⟩ := hsrc w hm
  rcases q5 with ⟨rfl, rfl⟩ | ⟨ad', rfl, hc⟩
  · omega
  · have hh : ((m + k : Nat) : Int) ≤ 9223372036854775807 := by simp only [maxLen] at h63; omega
    have r1 := run_append_grow (P := P) w t ty e i z hu hi hz ⟨b, 0, none⟩ m m xs h1.len (Seen.cells h1) ad' k cap news q1 hc (by omega) hh (growslice_fits (by omega) hby)
    have hrun : (execOp a.eval ⟨d, .call { callee := .builtin .append, args := #[s, x], argTypes := #[t, t] }, ty, pos, af, g⟩).run P w = .ok (.value (.slice (some ⟨w.heap.size, 0, none⟩) (m + k) (grownCap w (m + k) m e)))
        (w.drew.alloc (.cells (xs.toArray ++ news.toArray ++ Builtin.zeroCells z.cells (grownCap w (m + k) m e - (m + k))) e)) := by
      simp only [execOp, resolve, invoke, builtin, Sem.run_bind, Sem.run_pure, Result.andThen_ok, List.map_toArray, List.map_cons, List.map_nil, hs.eval hs_, hs.eval hx]
      have : arv b m = .slice (some ⟨b, 0, none⟩) m m := rfl
      rw [this, r1]; rfl
    unfold Oper.wp
    rw [hrun]
    have hge := grownCap_ge w (m + k) m e
    have hcm : grownCap w (m + k) m e ≤ maxLen := grownCap_le_maxLen w (m + k) m e h63
    have hl1 := h1.len
    have hcl : (xs ++ news).length = (m + k) * i.size := by rw [List.length_append, hl1, q1, Nat.add_mul]
    have hd : Mem w0 Ln M S w.drew := hm.drew
    have hrow := hd.allocRow e (xs ++ news ++ (Builtin.zeroCells z.cells (grownCap w (m + k) m e - (m + k))).toList) (m + k) (grownCap w (m + k) m e) i.size (xs ++ news) (by
      rw [List.length_append, hcl, Array.length_toList, size_zeroCells, hz1, ← Nat.add_mul]
      congr 1; omega) hge hcm (by rw [List.take_append_of_le_length (by omega)]; exact List.take_of_length_le (by omega))
    have ecs : (xs ++ news ++ (Builtin.zeroCells z.cells (grownCap w (m + k) m e - (m + k))).toList).toArray = xs.toArray ++ news.toArray ++ Builtin.zeroCells z.cells (grownCap w (m + k) m e - (m + k)) := by
      apply Array.ext'; simp
    rw [ecs] at hrow
    exact hK _ _ ⟨_, _, rfl, hge, hcm, fun h => by cases h⟩ hrow

/-- A slice out of values of sz cells each. -/
theorem fill_flatN {s : Nat} (hs : 0 < s) (vs : List Value) (cells : Array Value) (h1 : ∀ v ∈ vs, v.cells.size = s) (hn : vs.length * s = cells.size) :
    Instr.fill (fun i => some (i * s, s)) cells ((vs.zipIdx 0).map fun x => (x.2, x.1)) = some (vs.map (·.cells.toList)).flatten.toArray := by
  obtain ⟨r, hr, hsz, hk⟩ := Great.fill_dense hs vs 0 cells h1 (by rw [Nat.zero_add]; omega)
  simp only [Nat.zero_add, Nat.zero_mul, Nat.zero_le, true_and] at hk
  rw [hr]
  congr 1
  have hlen : ∀ c ∈ vs.map (·.cells.toList), c.length = s := fun c hc => by
    obtain ⟨v, hv, rfl⟩ := List.mem_map.1 hc
    simpa using h1 v hv
  have hfl := flat_length hlen
  rw [List.length_map] at hfl
  apply Array.ext_getElem?
  intro k
  rw [hk k]
  by_cases hlt : k < vs.length * s
  · rw [if_pos hlt]
    have hq : k / s < vs.length := Nat.div_lt_of_lt_mul (by rw [Nat.mul_comm]; exact hlt)
    have hm := Nat.mod_lt k hs
    have hdm := Nat.div_add_mod k s
    rw [List.getElem?_toArray, Nat.sub_zero, List.getElem?_eq_getElem hq, Option.bind_some]
    have hj : k < (vs.map (·.cells.toList)).flatten.length := by omega
    obtain ⟨i, q, c, e1, e2, e3, e4⟩ := flat_get hlen (List.getElem?_eq_getElem hj)
    rw [List.getElem?_eq_getElem hj, ← e4]
    have ei : k / s = i := by rw [e1, Nat.mul_comm, Nat.mul_add_div hs, Nat.div_eq_of_lt e2]; omega
    have eq : k % s = q := by rw [e1, Nat.mul_comm, Nat.mul_add_mod, Nat.mod_eq_of_lt e2]
    subst ei eq
    rw [List.getElem?_map, List.getElem?_eq_getElem hq] at e3
    simp at e3
    rw [← e3]; simp
  · rw [if_neg hlt, Array.getElem?_eq_none (by omega), List.getElem?_toArray, List.getElem?_eq_none (by omega)]
theorem t_bsG {t e : TypeId} {len : Nat} {parts : Array (Nat × Operand)} (vs : List Value) (cs : List Value) {z : Value} {sz by_ : Nat} (hu : P.underlying t = some (.slice e)) (he : TyI P e z sz by_) (hz1 : z.cells.size = sz) (hpos : 0 < sz)
    (hv : evp L parts.toList = some ((vs.zipIdx 0).map fun x => (x.2, x.1))) (hsmall : len * sz ≤ 2 ^ 24) (hlen : 0 < len) (hl : vs.length = len) (h1 : ∀ v ∈ vs, v.cells.size = sz) (hcs : (vs.map (·.cells.toList)).flatten = cs) :
    TOpP P Q n (Mem w0 Ln M S) L (.buildSlice t len parts) Value (fun v => SV v len) (fun v => v) (fun v => Mem w0 Ln (.row v len e sz cs :: M) S) := by
  subst hcs
  have hlen2 : ∀ c ∈ vs.map (·.cells.toList), c.length = sz := fun c hc => by
    obtain ⟨v, hv, rfl⟩ := List.mem_map.1 hc
    simpa using h1 v hv
  have hfl := flat_length hlen2
  rw [List.length_map, hl] at hfl
  refine t_bsW _ hu he hv hsmall (Nat.mul_pos hlen hpos) hz1 ?_ hfl
  exact fill_flatN hpos vs _ h1 (by
    have : ∀ c ∈ List.replicate len z.cells.toList, c.length = sz := fun c hc => by
      rw [List.eq_of_mem_replicate hc]; simpa using hz1
    have h2 := flat_length this
    simp only [List.length_replicate] at h2
    simpa [hl] using h2.symm)

theorem v8s_flat (xss : List (List UInt8)) : (xss.map v8s).flatten = v8s xss.flatten := by
  induction xss with
  | nil => rfl
  | cons x r ih => rw [List.map_cons, List.flatten_cons, ih, List.flatten_cons, v8s_append]
theorem flat_len {α : Type} {N : Nat} : ∀ (xss : List (List α)), (∀ x ∈ xss, x.length = N) → xss.flatten.length = xss.length * N
  | [], _ => by simp
  | x :: r, h => by rw [List.flatten_cons, List.length_append, flat_len r fun y hy => h y (List.mem_cons_of_mem _ hy), h x (List.mem_cons_self ..), List.length_cons, Nat.succ_mul]; omega
/-- One of the parts that lie side by side. -/
theorem flat_part {α : Type} {N : Nat} (xss : List (List α)) (h : ∀ x ∈ xss, x.length = N) : ∀ i, i < xss.length → (xss.flatten.drop (i * N)).take N = xss.getD i [] := by
  induction xss with
  | nil => intro i hi; simp at hi
  | cons x r ih =>
    intro i hi
    have hx := h x (List.mem_cons_self ..)
    cases i with
    | zero => rw [Nat.zero_mul, List.drop_zero, List.flatten_cons, List.take_append_of_le_length (by omega), List.take_of_length_le (by omega)]; rfl
    | succ i =>
      rw [List.flatten_cons, Nat.succ_mul, List.drop_append, hx, List.drop_of_length_le (by omega), List.nil_append, show i * N + N - N = i * N by omega]
      exact ih (fun y hy => h y (List.mem_cons_of_mem _ hy)) i (by simpa using hi)
theorem part8 {N : Nat} {xss : List (List UInt8)} (h : ∀ x ∈ xss, x.length = N) {i : Nat} (hi : i < xss.length) : ((v8s xss.flatten).drop (i * N)).take N = v8s (xss.getD i []) := by
  rw [v8s_drop, v8s_take, flat_part xss h i hi]
theorem getD_mem_len {α : Type} {N : Nat} {xss : List (List α)} (h : ∀ x ∈ xss, x.length = N) {i : Nat} (hi : i < xss.length) : (xss.getD i []).length = N := by
  rw [List.getD_eq_getElem?_getD, List.getElem?_eq_getElem hi]; exact h _ (List.getElem_mem hi)
theorem all_one {α : Type} {N : Nat} {x : List α} (h : x.length = N) : ∀ y ∈ [x], y.length = N := by
  intro y hy; simp at hy; rw [hy]; exact h
theorem all_two {α : Type} {N : Nat} {x y : List α} (h : x.length = N) (h2 : y.length = N) : ∀ z ∈ [x, y], z.length = N := by
  intro z hz; simp at hz; rcases hz with rfl | rfl <;> assumption
/-- A slice out of arrays of bytes. -/
theorem t_bsS {t e : TypeId} {len : Nat} {parts : Array (Nat × Operand)} (xss : List (List UInt8)) {z : Value} {sz by_ : Nat} (hu : P.underlying t = some (.slice e)) (he : TyI P e z sz by_) (hz1 : z.cells.size = sz) (hpos : 0 < sz)
    (hv : evp L parts.toList = some (((xss.map fun x => (Value.agg (v8s x).toArray)).zipIdx 0).map fun x => (x.2, x.1))) (hsmall : len * sz ≤ 2 ^ 24) (hlen : 0 < len) (hl : xss.length = len) (h1 : ∀ x ∈ xss, x.length = sz) :
    TOpP P Q n (Mem w0 Ln M S) L (.buildSlice t len parts) Value (fun v => SV v len) (fun v => v) (fun v => Mem w0 Ln (.row v len e sz (v8s xss.flatten) :: M) S) :=
  t_bsG _ _ hu he hz1 hpos hv hsmall hlen (by simpa using hl) (fun v hv => by
    obtain ⟨x, hx, rfl⟩ := List.mem_map.1 hv
    simpa [Value.cells, v8s_length] using h1 x hx) (by
    rw [← v8s_flat, List.map_map]; rfl)
theorem Seen.slv8 {r : Rd} {v : Value} {m : Nat} {bs : List UInt8} (h : Seen r v m 1 (v8s bs)) (l k : Nat) (h1 : l ≤ k) (h2 : k ≤ m) : Seen r (Go.PL.slv v l k 1) (k - l) 1 (v8s ((bs.drop l).take (k - l))) := by
  have := h.slv l k h1 h2
  rwa [Nat.mul_one, Nat.mul_one, v8s_drop, v8s_take] at this

theorem Seen.re8 {r : Rd} {v : Value} {m : Nat} {bs : List UInt8} (h : Seen r v m 1 (v8s bs)) : Seen r v bs.length 1 (v8s bs) := by
  have := h.len; rw [v8s_length, Nat.mul_one] at this; rw [this]; exact h
theorem Seen.re64 {r : Rd} {v : Value} {m : Nat} {bs : List UInt64} (h : Seen r v m 1 (v64s bs)) : Seen r v bs.length 1 (v64s bs) := by
  have := h.len; rw [v64s_length, Nat.mul_one] at this; rw [this]; exact h
theorem Seen.reN {r : Rd} {v : Value} {m : Nat} {bs : List Nat} (h : Seen r v m 1 (vns bs)) : Seen r v bs.length 1 (vns bs) := by
  have := h.len; rw [vns_length, Nat.mul_one] at this; rw [this]; exact h
theorem Seen.reS {r : Rd} {v : Value} {m N : Nat} {xss : List (List UInt8)} (h : Seen r v m N (v8s xss.flatten)) (hl : ∀ x ∈ xss, x.length = N) (hN : 0 < N) : Seen r v xss.length N (v8s xss.flatten) := by
  have := h.len; rw [v8s_length, flat_len xss hl] at this
  rw [Nat.eq_of_mul_eq_mul_right hN this]; exact h

theorem q_idxP1 {t e len : Nat} {x i : Operand} {ad : Addr} {k : IntKind} {j : Nat} {z : Value} {by_ : Nat} (hu : P.underlying t = some (.array len e)) (he : TyI P e z 1 by_)
    (hx : ev L x = some (.pointer (some ad))) (hi : ev L i = some (.int k ((j : Nat) : Int))) (h1 : j < len) :
    QOp P n R L (.indexAddr t x i) (.pointer (some (ad.add j))) := by
  intro d ty pos af g a w hs _
  simp only [execOp, hs.eval hx, hs.eval hi]
  simp [Instr.indexAt, asIntOf, run_underlying hu, Instr.sureAddr, h1, run_sz he]
theorem get2 {l : List (List UInt8)} {N i k : Nat} (h : ∀ x ∈ l, x.length = N) (hi : i < l.length) (hk : k < N) : (v8s l.flatten)[i * N + k]? = some (.int .u8 (((l.getD i []).getD k 0).toNat : Int)) := by
  have h1 := flat_part l h i hi
  have h2 : (v8s l.flatten)[i * N + k]? = (v8s (l.getD i []))[k]? := by
    rw [← h1, ← v8s_take, ← v8s_drop, List.getElem?_take, if_pos hk, List.getElem?_drop]
  rw [h2]
  exact v8s_get (by rw [getD_mem_len h hi]; exact hk)
/-- A slice of arrays of bytes, as an argument. -/
theorem opens_arrs {H : Type} {enc : TypeId × Value → H} {P : Program} {w : World} {base : Nat} {sp : Nat → Bool} {held : Bool} {t a e : TypeId} {N : Nat} (ht : P.underlying t = some (.slice a)) (ha : P.underlying a = some (.array N e)) (he : P.underlying e = some (.int .u8)) (hc : P.cellsOf e = 1) (hca : P.cellsOf a = N) :
    Opens enc P w base sp held t (fun (p : Value × List (List UInt8)) c d => c = [p.1] ∧ Seen w.cell? p.1 p.2.length N (v8s p.2.flatten) ∧ (∀ x ∈ p.2, x.length = N)) := by
  intro n cs y h
  obtain ⟨⟨v, qs⟩, h1, h2, h3, h4⟩ := opens_slice ht hca (opens_arr ha hc hca (opens_u8 he)) n cs y h
  refine ⟨(v, qs.map (·.1)), h1, ?_, ?_⟩
  · have : (qs.map (·.2.1)).flatten = v8s (qs.map (·.1)).flatten := by
      clear h1 h2 h4
      induction qs with
      | nil => rfl
      | cons q r ih =>
        rw [List.map_cons, List.flatten_cons, ih fun q hq => h3 q (List.mem_cons_of_mem _ hq), (h3 q (List.mem_cons_self ..)).1.1, List.map_cons, List.flatten_cons, v8s_append]; rfl
    simp only [List.length_map]
    rw [← this]; exact h2
  · intro x hx
    obtain ⟨q, hq, rfl⟩ := List.mem_map.1 hx
    exact (h3 q hq).1.2
/-- A block that gets the run-time's mark: its cells are as they were. -/
theorem Mem.marked {w' : World} {b : Nat} (h : Mem w0 [] M S w) (hos : w'.os = w.os) (htape : w'.tape = w.tape) (hout : w'.output = w.output) (hsz : w'.heap.size = w.heap.size) (hb : ∀ k, k ≠ b → w'.heap[k]? = w.heap[k]?)
    (hbn : inM M b = false) (hb0 : w0.heap.size ≤ b) (hc : ∀ a v, w.cell? a = some v → w'.cell? a = some v) : Mem w0 [] M S w' := by
  refine ⟨hos.trans h.os, htape.trans h.tape, hout.trans h.output, by rw [hsz]; exact h.size, fun k hk hl => (hb k (by omega)).trans (h.old k hk hl), fun e he => Ent.kept (h.own e he) fun k hk => hb k fun e' => ?_, h.new, h.apart, fun s hs => s.mono _ _ (fun a v hv => ?_) (h.facts s hs)⟩
  · subst e'; exact inM_not hbn e he hk
  · simp only [rdF] at hv ⊢
    split at hv
    · rename_i hcc
      rw [if_pos hcc]; exact hc _ _ hv
    · cases hv
/-- '[]byte("abc")': the literal's row gets the run-time's mark, and can only be read from here on. -/
theorem t_cvLit {t e : TypeId} {x : Operand} {v : Value} {m : Nat} {xs : List Value} {M' : List Ent} (hu : P.underlying t = some (.slice e)) (he : P.underlying e = some (.int .u8)) (hx : ev L x = some v) (hp : Pick M (.row v m e 1 xs) M') (hm0 : 0 < m) :
    TOp P Q n (Mem w0 [] M S) L (.convert t t x) Unit (fun _ => v) (fun _ => Mem w0 [] M' (seen v m 1 xs :: S)) := by
  intro d ty pos af g a w K hs hm hk
  have hfr := hm.freezeRow hp
  have hown : w.ownsRow 0 e 1 v m xs := hm.own _ hp.mem
  have hap := hp.apart hm.apart
  have hnew := hm.new _ hp.mem
  rcases hown.2 with ⟨rfl, h0⟩ | ⟨b, cap, cur, rfl, _, hg, h3, h4, h5, h6⟩
  · omega
  · have hsh : w.shape? b = some (e, cur.size) := by unfold World.shape?; rw [hg]
    have hrun : (execOp a.eval ⟨d, .convert t t x, ty, pos, af, g⟩).run P w = .ok (.value (.slice (some ⟨b, 0, none⟩) m cap)) (w.freeze ⟨b, cur.size, none⟩ 1) := by
      simp only [execOp, hs.eval hx]
      simp [convert, run_underlying hu, run_underlying he, markStringish, hsh]
    unfold Oper.wp
    rw [hrun]
    have hnum : (Ent.row (.slice (some ⟨b, 0, none⟩) m cap) m e 1 xs).num = some b := rfl
    have hF : w.freeze ⟨b, cur.size, none⟩ 1 = { w with heap := w.heap.modify b fun
      | .cells c elem (lo, hi) => .cells c elem (if lo == hi then (cur.size, cur.size + 1) else (min lo cur.size, max hi (cur.size + 1)))
      | o => o } := by unfold World.freeze; rw [if_neg (by decide)]; rfl
    have hne : ∀ k, k ≠ b → (w.freeze ⟨b, cur.size, none⟩ 1).heap[k]? = w.heap[k]? := fun k hk => by
      rw [hF]; simp only [Array.getElem?_modify]; rw [if_neg (fun e => hk e.symm)]
    have hbb : (w.freeze ⟨b, cur.size, none⟩ 1).heap[b]? = some (.cells cur e (cur.size, cur.size + 1)) := by
      rw [hF]; simp only [Array.getElem?_modify, hg, if_true]; simp
    refine hk () _ (hfr.marked (b := b) (by rw [hF]) (by rw [hF]) (by rw [hF]) (by rw [hF]; simp) hne (hap b hnum) ((hnew b hnum).resolve_right (by simp)) fun ad u hu => ?_)
    by_cases e' : ad.block = b
    · unfold World.cell? at hu ⊢
      rw [e', hbb]
      rw [e', hg] at hu
      exact hu
    · rw [World.cell?_of_block (hne _ e')]; exact hu
theorem bnot_true {p : Prop} [Decidable p] (h : ¬ p) : (!decide p) = true := by simp [h]
theorem bnot_false {p : Prop} [Decidable p] (h : p) : (!decide p) = false := by simp [h]
/-- A slot told anew. -/
theorem wpl_re (t : Nat) {v v' : Value} (h : get L t = some v) (e : v = v') (next : WPL P ops Q n R ((t, v') :: L) rest) : WPL P ops Q n R L rest := by
  subst e
  intro a w hs hr
  exact next a w (hs.weaken fun t' u hu => by
    rw [get_cons] at hu
    by_cases ee : t = t'
    · subst ee; rw [if_pos rfl] at hu; cases hu; exact h
    · rw [if_neg ee] at hu; exact hu) hr
theorem wpd_re {k fuel : Nat} {R0 : World → Prop} {listed : Array Bool} (t : Nat) {v v' : Value} (h : get L t = some v) (e : v = v') (next : WPD P ops Q n k R0 R ((t, v') :: L) fuel listed) : WPD P ops Q n k R0 R L fuel listed := by
  subst e
  intro a w hs hr
  exact next a w (hs.weaken fun t' u hu => by
    rw [get_cons] at hu
    by_cases ee : t = t'
    · subst ee; rw [if_pos rfl] at hu; cases hu; exact h
    · rw [if_neg ee] at hu; exact hu) hr
theorem wpc_re {c : Code} (t : Nat) {v v' : Value} (h : get L t = some v) (e : v = v') (next : WPC P Q n R ((t, v') :: L) c) : WPC P Q n R L c := by
  subst e
  intro a w hs hr
  exact next a w (hs.weaken fun t' u hu => by
    rw [get_cons] at hu
    by_cases ee : t = t'
    · subst ee; rw [if_pos rfl] at hu; cases hu; exact h
    · rw [if_neg ee] at hu; exact hu) hr
/-- A call of a function value that only reckons. -/
theorem t_purV {f : Operand} {k : FuncId} {args : Array Operand} {at_ : Array TypeId} {cap : Array Value} {vs : List Value} {v : Value} (hf : ev L f = some (.func (.func k) #[] cap)) (hb : HasBody P k) (hv : evs L args.toList = some vs)
    (hc : ∀ w, Mem w0 Ln M S w → Calls P k (vs.toArray ++ cap) w (Pur w v)) :
    TOp P Q n (Mem w0 Ln M S) L (.call { callee := .value f, args := args, argTypes := at_ }) Unit (fun _ => v) (fun _ => Mem w0 Ln M S) :=
  t_callG hf hb hv fun w hm => (hc w hm).mono fun e w' ⟨he, hbel⟩ => ⟨(), he, by
    have := hm.call hbel (new_nil _ _)
    simpa using this⟩
end
end Go.PL
