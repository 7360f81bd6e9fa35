/- What the reading of an argument gives: the cells that can be read, as lists of numbers. -/
import Derived.Test.YtoaeklbenmlooaaPLX
import Derived.OpenShut
import Derived.ChangeArms
namespace Go.PL
set_option linter.unusedSimpArgs false
set_option linter.unusedVariables false
open Go Go.RowKit
section
variable {H : Type} {enc : TypeId × Value → H} {P : Program} {w : World} {base : Nat} {sp : Nat → Bool} {held : Bool}

/-- The elements of a slice's datum. -/
def dels : DataW H → List (DataW H)
  | .slice es _ => es
  | _ => []
/-- Whatever reads as type t is told by R. -/
def Opens (enc : TypeId × Value → H) (P : Program) (w : World) (base : Nat) (sp : Nat → Bool) (held : Bool) (t : TypeId) {α : Type} (R : α → List Value → DataW H → Prop) : Prop :=
  ∀ n c y, DataW.trod enc P w base sp held n t c = some y → ∃ a, R a c y.1

theorem cells_list {a : Addr} {k : Nat} {cs : List Value} (h : w.cells? base a k = some cs) : cs.length = k ∧ CellsAt w.cell? a cs := by
  obtain ⟨h1, h2, h3⟩ := World.cells?_some h
  refine ⟨h2, fun j v hj => ?_⟩
  have hlt := (List.getElem?_eq_some_iff.1 hj).1
  rw [h3 j (by omega)]; exact hj
theorem flat_get {css : List (List Value)} {sz : Nat} (hs : ∀ c ∈ css, c.length = sz) {j : Nat} {v : Value} (hj : css.flatten[j]? = some v) : ∃ i k c, j = i * sz + k ∧ k < sz ∧ css[i]? = some c ∧ c[k]? = some v := by
  induction css generalizing j with
  | nil => simp at hj
  | cons c r ih =>
    have hc := hs c (List.mem_cons_self ..)
    rw [List.flatten_cons] at hj
    by_cases h : j < c.length
    · rw [List.getElem?_append_left h] at hj
      exact ⟨0, j, c, by omega, by omega, rfl, hj⟩
    · rw [List.getElem?_append_right (by omega)] at hj
      obtain ⟨i, k, c', h1, h2, h3, h4⟩ := ih (fun c hc => hs c (List.mem_cons_of_mem _ hc)) hj
      refine ⟨i + 1, k, c', ?_, h2, by simpa using h3, h4⟩
      rw [Nat.succ_mul]; omega
theorem flat_length {css : List (List Value)} {sz : Nat} (hs : ∀ c ∈ css, c.length = sz) : css.flatten.length = css.length * sz := by
  induction css with
  | nil => simp
  | cons c r ih =>
    rw [List.flatten_cons, List.length_append, ih fun c hc => hs c (List.mem_cons_of_mem _ hc), hs c (List.mem_cons_self ..), List.length_cons, Nat.succ_mul]; omega

theorem opens_slice {t e : TypeId} {sz : Nat} {α : Type} {R : α → List Value → DataW H → Prop} (ht : P.underlying t = some (.slice e)) (hc : P.cellsOf e = sz) (hR : Opens enc P w base sp held e R) :
    Opens enc P w base sp held t (fun (p : Value × List (α × List Value × DataW H)) c d => c = [p.1] ∧ Seen w.cell? p.1 p.2.length sz (p.2.map (·.2.1)).flatten ∧ (∀ q ∈ p.2, R q.1 q.2.1 q.2.2 ∧ q.2.1.length = sz) ∧ dels d = p.2.map (·.2.2)) := by
  intro fuel cs x h
  rcases DataW.trod_slice ht h with ⟨rfl, rfl⟩ | ⟨a, len, cap, elems, rest, n, _, rfl, rfl, _, h2, h3, hl, hel, _⟩
  · exact ⟨(.slice none 0 0, []), rfl, seen_nil _ _, (fun q hq => by simp at hq), rfl⟩
  · rw [hc] at hel
    -- an entry of each element
    have key : ∀ k, k ≤ len → ∃ qs : List (α × List Value × DataW H), qs.length = k ∧ (∀ i q, qs[i]? = some q → w.cells? base (a.add (i * sz)) sz = some q.2.1 ∧ R q.1 q.2.1 q.2.2) ∧ qs.map (·.2.2) = (elems.map (·.1)).take k := by
      intro k
      induction k with
      | zero => intro _; exact ⟨[], rfl, fun i q hq => by simp at hq, by simp⟩
      | succ k ih =>
        intro hk
        obtain ⟨qs, q1, q2, q3⟩ := ih (by omega)
        have he := hel k (by omega)
        have hk2 : k < elems.length := by omega
        rw [List.getElem?_eq_getElem hk2, Option.bind_eq_some_iff] at he
        obtain ⟨c, hcc, hy⟩ := he
        obtain ⟨av, ha⟩ := hR _ _ _ hy
        refine ⟨qs ++ [(av, c, elems[k].1)], by simp [q1], fun i q hq => ?_, ?_⟩
        · by_cases hi : i < k
          · rw [List.getElem?_append_left (by omega)] at hq; exact q2 i q hq
          · have : i = k := by
              have := (List.getElem?_eq_some_iff.1 hq).1
              simp [q1] at this; omega
            subst this
            rw [List.getElem?_append_right (by omega), q1, Nat.sub_self] at hq
            simp at hq; subst hq
            exact ⟨hcc, ha⟩
        · rw [List.map_append, q3, List.take_add_one]
          simp [hk2]
    obtain ⟨qs, q1, q2, q3⟩ := key len (Nat.le_refl _)
    have hcell : ∀ q ∈ qs, ∃ i, qs[i]? = some q ∧ w.cells? base (a.add (i * sz)) sz = some q.2.1 ∧ R q.1 q.2.1 q.2.2 := fun q hq => by
      obtain ⟨i, hi⟩ := List.getElem?_of_mem hq
      exact ⟨i, hi, q2 i q hi⟩
    have hlen : ∀ c ∈ qs.map (·.2.1), c.length = sz := fun c hc' => by
      obtain ⟨q, hq, rfl⟩ := List.mem_map.1 hc'
      obtain ⟨i, _, h4, _⟩ := hcell q hq
      exact (cells_list h4).1
    refine ⟨(.slice (some a) len cap, qs), rfl, ⟨?_, some a, cap, by simp [q1], by simp [q1]; exact h2, h3, .inr ⟨a, rfl, fun j v hj => ?_⟩⟩, fun q hq => ?_, ?_⟩
    · rw [flat_length hlen]; simp
    · obtain ⟨i, k, c, e1, e2, e3, e4⟩ := flat_get hlen hj
      rw [List.getElem?_map] at e3
      cases hq : qs[i]? with
      | none => simp [hq] at e3
      | some q =>
        simp [hq] at e3
        subst e3
        have := (cells_list (q2 i q hq).1).2 k v e4
        rw [addr_add_add] at this
        rw [e1]; exact this
    · obtain ⟨i, _, h4, h5⟩ := hcell q hq
      exact ⟨h5, (cells_list h4).1⟩
    · simp only [dels]
      rw [q3, List.take_of_length_le (by simp; omega)]

/-! ### Numbers -/
theorem wf_u8 {n : Int} (h : (Lit.int .u8 n).wf = true) : ((UInt8.ofNat n.toNat).toNat : Int) = n := by
  simp [Lit.wf, IntKind.min, IntKind.max, IntKind.signed, IntKind.bits] at h
  simp; omega
theorem wf_u16 {n : Int} (h : (Lit.int .u16 n).wf = true) : ((UInt16.ofNat n.toNat).toNat : Int) = n := by
  simp [Lit.wf, IntKind.min, IntKind.max, IntKind.signed, IntKind.bits] at h
  simp; omega
theorem wf_u32 {n : Int} (h : (Lit.int .u32 n).wf = true) : ((UInt32.ofNat n.toNat).toNat : Int) = n := by
  simp [Lit.wf, IntKind.min, IntKind.max, IntKind.signed, IntKind.bits] at h
  simp; omega
theorem wf_u64 {n : Int} (h : (Lit.int .u64 n).wf = true) : ((UInt64.ofNat n.toNat).toNat : Int) = n := by
  simp [Lit.wf, IntKind.min, IntKind.max, IntKind.signed, IntKind.bits] at h
  simp; omega
theorem wf_i64 {n : Int} (h : (Lit.int .i64 n).wf = true) : -9223372036854775808 ≤ n ∧ n ≤ 9223372036854775807 := by
  simp [Lit.wf, IntKind.min, IntKind.max, IntKind.signed, IntKind.bits] at h
  omega
theorem opens_u8 {t : TypeId} (ht : P.underlying t = some (.int .u8)) : Opens enc P w base sp held t (fun (a : UInt8) c _ => c = [.int .u8 (a.toNat : Int)]) := fun n c y h => by
  obtain ⟨m, rfl, rfl, hw⟩ := DataW.trod_int ht h
  exact ⟨UInt8.ofNat m.toNat, by dsimp only; rw [wf_u8 hw]⟩
theorem opens_u16 {t : TypeId} (ht : P.underlying t = some (.int .u16)) : Opens enc P w base sp held t (fun (a : UInt16) c _ => c = [.int .u16 (a.toNat : Int)]) := fun n c y h => by
  obtain ⟨m, rfl, rfl, hw⟩ := DataW.trod_int ht h
  exact ⟨UInt16.ofNat m.toNat, by dsimp only; rw [wf_u16 hw]⟩
theorem opens_u32 {t : TypeId} (ht : P.underlying t = some (.int .u32)) : Opens enc P w base sp held t (fun (a : UInt32) c _ => c = [.int .u32 (a.toNat : Int)]) := fun n c y h => by
  obtain ⟨m, rfl, rfl, hw⟩ := DataW.trod_int ht h
  exact ⟨UInt32.ofNat m.toNat, by dsimp only; rw [wf_u32 hw]⟩
theorem opens_u64 {t : TypeId} (ht : P.underlying t = some (.int .u64)) : Opens enc P w base sp held t (fun (a : UInt64) c _ => c = [.int .u64 (a.toNat : Int)]) := fun n c y h => by
  obtain ⟨m, rfl, rfl, hw⟩ := DataW.trod_int ht h
  exact ⟨UInt64.ofNat m.toNat, by dsimp only; rw [wf_u64 hw]⟩
theorem opens_i64 {t : TypeId} (ht : P.underlying t = some (.int .i64)) : Opens enc P w base sp held t (fun (a : Int) c _ => c = [.int .i64 a] ∧ -9223372036854775808 ≤ a ∧ a ≤ 9223372036854775807) := fun n c y h => by
  obtain ⟨m, rfl, rfl, hw⟩ := DataW.trod_int ht h
  exact ⟨_, rfl, wf_i64 hw⟩
theorem opens_bool {t : TypeId} (ht : P.underlying t = some .bool) : Opens enc P w base sp held t (fun (a : Bool) c _ => c = [.bool a]) := fun n c y h => by
  obtain ⟨m, rfl, rfl⟩ := DataW.trod_bool ht h
  exact ⟨_, rfl⟩
/-- A string as its bytes. -/
def str (xs : List UInt8) : Value := .string ⟨xs.toArray⟩
theorem opens_str {t : TypeId} (ht : P.underlying t = some .string) : Opens enc P w base sp held t (fun (a : List UInt8) c d => c = [str a] ∧ a.length ≤ maxLen ∧ d = .lit (.string a)) := fun n c y h => by
  obtain ⟨s, rfl, rfl, hw⟩ := DataW.trod_string ht h
  exact ⟨s.data.toList, rfl, by simpa using hw, rfl⟩
/-- An array of numbers. -/
theorem opens_arr {t e : TypeId} {α : Type} {N : Nat} {f : α → Value} (ht : P.underlying t = some (.array N e)) (hc : P.cellsOf e = 1) (hct : P.cellsOf t = N) (hR : Opens enc P w base sp held e (fun (a : α) c _ => c = [f a])) :
    Opens enc P w base sp held t (fun (as : List α) c _ => c = as.map f ∧ as.length = N) := by
  intro n cs y h
  obtain ⟨xs, m, _, _, hl, hx, hel⟩ := DataW.trod_array ht h
  rw [hc] at hel
  rw [hct] at hl
  have key : ∀ k, k ≤ N → ∃ as : List α, as.length = k ∧ cs.take k = as.map f := by
    intro k
    induction k with
    | zero => intro _; exact ⟨[], rfl, by simp⟩
    | succ k ih =>
      intro hk
      obtain ⟨as, h1, h2⟩ := ih (by omega)
      have he := hel k (by omega)
      rw [List.getElem?_eq_getElem (by omega)] at he
      obtain ⟨a, ha⟩ := hR _ _ _ he
      refine ⟨as ++ [a], by simp [h1], ?_⟩
      rw [List.map_append, ← h2, List.take_add_one]
      congr 1
      rw [Nat.mul_one, List.drop_eq_getElem_cons (by omega), List.take_succ_cons, List.take_zero] at ha
      simp only [List.cons.injEq, and_true] at ha
      rw [List.getElem?_eq_getElem (by omega), ha]; rfl
  obtain ⟨as, h1, h2⟩ := key N (Nat.le_refl _)
  rw [List.take_of_length_le (by omega)] at h2
  exact ⟨as, h2, h1⟩
/-- A slice of numbers. -/
theorem opens_nums {t e : TypeId} {α : Type} {f : α → Value} (ht : P.underlying t = some (.slice e)) (hc : P.cellsOf e = 1) (hR : Opens enc P w base sp held e (fun (a : α) c _ => c = [f a])) :
    Opens enc P w base sp held t (fun (p : Value × List α) c d => c = [p.1] ∧ Seen w.cell? p.1 p.2.length 1 (p.2.map f) ∧ (dels d).length = p.2.length) := by
  intro n cs y h
  obtain ⟨⟨v, qs⟩, h1, h2, h3, h4⟩ := opens_slice ht hc hR n cs y h
  refine ⟨(v, qs.map (·.1)), h1, ?_, by rw [h4]; simp⟩
  have : (qs.map (·.2.1)).flatten = (qs.map (·.1)).map f := by
    clear h1 h2 h4
    induction qs with
    | nil => rfl
    | cons q r ih =>
      rw [List.map_cons, List.flatten_cons, ih fun q hq => h3 q (List.mem_cons_of_mem _ hq), (h3 q (List.mem_cons_self ..)).1]; rfl
  simp only [List.length_map]
  rw [← this]; exact h2
theorem opens_u8s {t e : TypeId} (ht : P.underlying t = some (.slice e)) (he : P.underlying e = some (.int .u8)) (hc : P.cellsOf e = 1) :
    Opens enc P w base sp held t (fun (p : Value × List UInt8) c d => c = [p.1] ∧ Seen w.cell? p.1 p.2.length 1 (v8s p.2) ∧ (dels d).length = p.2.length) := opens_nums ht hc (opens_u8 he)
/-- A slice of slices of bytes. -/
theorem opens_u8ss {t s e : TypeId} (ht : P.underlying t = some (.slice s)) (hs : P.underlying s = some (.slice e)) (he : P.underlying e = some (.int .u8)) (hc : P.cellsOf e = 1) (hcs : P.cellsOf s = 1) :
    Opens enc P w base sp held t (fun (p : Value × List (Value × List UInt8)) c d => c = [p.1] ∧ Seen w.cell? p.1 p.2.length 1 (p.2.map Prod.fst) ∧ (∀ q ∈ p.2, Seen w.cell? q.1 q.2.length 1 (v8s q.2)) ∧ (dels d).map (fun e => (dels e).length) = p.2.map (fun q => q.2.length)) := by
  intro n cs y h
  obtain ⟨⟨v, qs⟩, h1, h2, h3, h4⟩ := opens_slice ht hcs (opens_u8s hs he hc) n cs y h
  refine ⟨(v, qs.map (·.1)), h1, ?_, ?_, ?_⟩
  · have : (qs.map (·.2.1)).flatten = (qs.map (·.1)).map Prod.fst := by
      clear h1 h2 h4
      induction qs with
      | nil => rfl
      | cons q r ih =>
        rw [List.map_cons, List.flatten_cons, ih fun q hq => h3 q (List.mem_cons_of_mem _ hq), (h3 q (List.mem_cons_self ..)).1.1]; rfl
    simp only [List.length_map]
    rw [← this]; exact h2
  · intro q hq
    obtain ⟨q', hq', rfl⟩ := List.mem_map.1 hq
    exact (h3 q' hq').1.2.1
  · rw [h4, List.map_map, List.map_map]
    exact List.map_congr_left fun q hq => (h3 q hq).1.2.2
/-- An argument of one cell. -/
theorem arg_one {α : Type} {t : TypeId} {R : α → List Value → DataW H → Prop} (hR : Opens enc P w base sp held t R) {v : Value} {d : DataW H} {ps : List MemPlace} (h : DataW.Trod enc P w base sp held t v d ps) : ∃ a, R a v.cells.toList d := by
  obtain ⟨n, hn⟩ := h
  exact hR n _ _ hn
theorem arg_of {r : Reach} {b0 : Nat} {t : TypeId} {v u : Value} {d : TypeDesc} (hu : P.underlying t = some d) (hd : isAggD d = false) (hval : Value.okWide P w r b0 t v) (h : v.cells.toList = [u]) : v = u := by
  cases v with
  | agg cs =>
    unfold Value.okWide at hval
    rw [hu] at hval
    cases d <;> simp_all [Cell.okWide, Cell.ok, isAggD]
  | _ => simpa [Value.cells] using h
theorem arg_agg {r : Reach} {b0 : Nat} {t : TypeId} {v : Value} {d : TypeDesc} {cs : List Value} (hu : P.underlying t = some d) (hd : isAggD d = true) (hval : Value.okWide P w r b0 t v) (h : v.cells.toList = cs) : v = .agg cs.toArray := by
  subst h
  unfold Value.okWide at hval
  rw [hu] at hval
  cases d <;> simp [isAggD] at hd
  all_goals
    obtain ⟨c, rfl, _⟩ := hval
    simp [Value.cells]
end
end Go.PL
