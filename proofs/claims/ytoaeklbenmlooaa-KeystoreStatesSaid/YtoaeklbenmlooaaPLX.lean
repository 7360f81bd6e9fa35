/- Slices whose value stays shut: length, elements, parts, appending, making; whole numbers that are not negative. -/
import Derived.Test.YtoaeklbenmlooaaPLI
namespace Go.PL
set_option linter.unusedSimpArgs false
set_option linter.unusedVariables false
open Go Go.RowKit

/-- A slice of n elements. -/
def SV (v : Value) (n : Nat) : Prop := ∃ a cap, v = .slice a n cap ∧ n ≤ cap ∧ cap ≤ maxLen ∧ (a = none → cap = 0)
/-- Where a slice begins. -/
def sa : Value → Addr
  | .slice (some a) _ _ => a
  | _ => ⟨0, 0, none⟩
/-- A part of a slice. -/
def slv (v : Value) (l k sz : Nat) : Value := match v with
  | .slice a _ cap => sliced a l k cap sz
  | _ => undef
theorem SV.nil : SV (.slice none 0 0) 0 := ⟨none, 0, rfl, Nat.le_refl _, Nat.zero_le _, fun _ => rfl⟩
theorem SV.le {v : Value} {n : Nat} (h : SV v n) : n ≤ maxLen := by obtain ⟨a, cap, _, h2, h3, _⟩ := h; omega
theorem SV.cells {v : Value} {n : Nat} (h : SV v n) : v.cells.toList = [v] := by obtain ⟨a, cap, rfl, _⟩ := h; rfl
theorem SV.one {v : Value} {n : Nat} (h : SV v n) : v.oneCell' = true := by obtain ⟨a, cap, rfl, _⟩ := h; rfl
theorem SV.slv {v : Value} {n : Nat} (h : SV v n) {l k sz : Nat} (h1 : l ≤ k) (h2 : k ≤ n) : SV (slv v l k sz) (k - l) := by
  obtain ⟨a, cap, rfl, h3, h4, h5⟩ := h
  refine ⟨_, _, rfl, by omega, by omega, fun h => ?_⟩
  split at h
  · omega
  · cases a with
    | none => have := h5 rfl; omega
    | some a => simp at h
theorem Seen.sv {r : Rd} {v : Value} {m sz : Nat} {vs : List Value} (h : Seen r v m sz vs) : SV v m := h.form
theorem Seen.slv {r : Rd} {v : Value} {m sz : Nat} {vs : List Value} (h : Seen r v m sz vs) (l k : Nat) (h1 : l ≤ k) (h2 : k ≤ m) : Seen r (slv v l k sz) (k - l) sz ((vs.drop (l * sz)).take ((k - l) * sz)) := by
  obtain ⟨a, cap, rfl, _⟩ := h.form
  exact h.slice l k h1 h2
theorem Seen.cellA {r : Rd} {v : Value} {m sz : Nat} {vs : List Value} (h : Seen r v m sz vs) {j : Nat} {u : Value} (hj : vs[j]? = some u) : r ((sa v).add j) = some u := by
  obtain ⟨h1, a, cap, rfl, h3, h4, h5⟩ := h
  rcases h5 with ⟨rfl, rfl⟩ | ⟨ad, rfl, h6⟩
  · obtain rfl : m = 0 := by omega
    obtain rfl : vs = [] := List.eq_nil_of_length_eq_zero (by simpa using h1)
    simp at hj
  · exact h6 j u hj
section
variable {P : Program} {n : Cx} {R : World → Prop} {L : Slots} {Q : Exit → Act → World → Prop} {ops : Array Oper} {rest : List Oper}
variable {w0 w : World} {Ln : List Nat} {M : List Ent} {S : List Fact}
theorem Mem.svV (h : Mem w0 Ln M S w) {v : Value} {m : Nat} {e : TypeId} {sz : Nat} {xs : List Value} [hm : HasV M v m e sz xs] : SV v m := h.seenV.form

/-! ### Whole numbers that are not negative -/
theorem q_addN {t t' : TypeId} {x y : Operand} {a b : Nat} (hx : ev L x = some (.int .i64 ((a : Nat) : Int))) (hy : ev L y = some (.int .i64 ((b : Nat) : Int))) (h : a + b ≤ 9223372036854775807) : QOp P n R L (.binOp .add t x y t') (.int .i64 ((a + b : Nat) : Int)) :=
  q_bin hx hy (by simp only [binV, arithI]; rw [wk_i64 (by omega) (by omega)]; rfl)
theorem q_mulN {t t' : TypeId} {x y : Operand} {a b : Nat} (hx : ev L x = some (.int .i64 ((a : Nat) : Int))) (hy : ev L y = some (.int .i64 ((b : Nat) : Int))) (h : a * b ≤ 9223372036854775807) : QOp P n R L (.binOp .mul t x y t') (.int .i64 ((a * b : Nat) : Int)) :=
  q_bin hx hy (by
    have h2 : ((a : Int) * (b : Int)) = ((a * b : Nat) : Int) := rfl
    simp only [binV, arithI]; rw [h2, wk_i64 (by omega) (by omega)])
theorem q_subN {t t' : TypeId} {x y : Operand} {a b : Nat} (hx : ev L x = some (.int .i64 ((a : Nat) : Int))) (hy : ev L y = some (.int .i64 ((b : Nat) : Int))) (h : b ≤ a) (h2 : a ≤ 9223372036854775807) : QOp P n R L (.binOp .sub t x y t') (.int .i64 ((a - b : Nat) : Int)) :=
  q_bin hx hy (by simp only [binV, arithI]; rw [wk_i64 (by omega) (by omega)]; congr 2; omega)
theorem q_quoN {t t' : TypeId} {x y : Operand} {a b : Nat} (hx : ev L x = some (.int .i64 ((a : Nat) : Int))) (hy : ev L y = some (.int .i64 ((b : Nat) : Int))) (h : 0 < b) (h2 : a ≤ 9223372036854775807) : QOp P n R L (.binOp .quo t x y t') (.int .i64 ((a / b : Nat) : Int)) := by
  have h3 : ((a : Int).tdiv (b : Int)) = ((a / b : Nat) : Int) := rfl
  have h4 : a / b ≤ a := Nat.div_le_self ..
  have := q_quo (P := P) (n := n) (R := R) (t := t) (t' := t') hx hy (by omega)
  rw [h3] at this
  generalize a / b = q at *
  rwa [wk_i64 (by omega) (by omega)] at this
theorem q_remN {t t' : TypeId} {x y : Operand} {a b : Nat} (hx : ev L x = some (.int .i64 ((a : Nat) : Int))) (hy : ev L y = some (.int .i64 ((b : Nat) : Int))) (h : 0 < b) : QOp P n R L (.binOp .rem t x y t') (.int .i64 ((a % b : Nat) : Int)) :=
  q_rem hx hy (by omega)
theorem q_shrN {t t' : TypeId} {x y : Operand} {k' : IntKind} {a b : Nat} (hx : ev L x = some (.int .i64 ((a : Nat) : Int))) (hy : ev L y = some (.int k' ((b : Nat) : Int))) (h : b ≤ 63) : QOp P n R L (.binOp .shr t x y t') (.int .i64 ((a / 2 ^ b : Nat) : Int)) := by
  have := q_shr (P := P) (n := n) (R := R) (t := t) (t' := t') hx hy (by omega)
  have e : min ((b : Int).toNat) IntKind.i64.bits = b := by simp [IntKind.bits]; omega
  rw [e] at this
  have e2 : Int.fdiv (a : Int) (2 ^ b : Int) = ((a / 2 ^ b : Nat) : Int) := by
    have : (2 ^ b : Int) = ((2 ^ b : Nat) : Int) := by simp
    rw [this, Int.fdiv_eq_ediv_of_nonneg _ (Int.natCast_nonneg _)]; rfl
  rwa [e2] at this
theorem q_shlN {t t' : TypeId} {x y : Operand} {k' : IntKind} {a b : Nat} (hx : ev L x = some (.int .i64 ((a : Nat) : Int))) (hy : ev L y = some (.int k' ((b : Nat) : Int))) (h : b ≤ 63) (h2 : a * 2 ^ b ≤ 9223372036854775807) : QOp P n R L (.binOp .shl t x y t') (.int .i64 ((a * 2 ^ b : Nat) : Int)) := by
  have := q_shl (P := P) (n := n) (R := R) (t := t) (t' := t') hx hy (by omega)
  have e : min ((b : Int).toNat) IntKind.i64.bits = b := by simp [IntKind.bits]; omega
  rw [e] at this
  have e2 : (a : Int) * 2 ^ b = ((a * 2 ^ b : Nat) : Int) := by simp
  rw [e2, wk_i64 (by omega) (by omega)] at this
  exact this
theorem q_andN {t t' : TypeId} {x y : Operand} {a b : Nat} (hx : ev L x = some (.int .i64 ((a : Nat) : Int))) (hy : ev L y = some (.int .i64 ((b : Nat) : Int))) (h : a ≤ 9223372036854775807) (h2 : b ≤ 9223372036854775807) : QOp P n R L (.binOp .and t x y t') (.int .i64 ((a &&& b : Nat) : Int)) :=
  q_bin hx hy (by
    simp only [binV, arithI]
    rw [and_nat _ a b (by simp [IntKind.bits]; omega) (by simp [IntKind.bits]; omega)]
    have : a &&& b ≤ a := Nat.and_le_left
    rw [wk_i64 (by omega) (by omega)])
theorem q_orN {t t' : TypeId} {x y : Operand} {a b : Nat} (hx : ev L x = some (.int .i64 ((a : Nat) : Int))) (hy : ev L y = some (.int .i64 ((b : Nat) : Int))) (h : a ≤ 9223372036854775807) (h2 : b ≤ 9223372036854775807) : QOp P n R L (.binOp .or t x y t') (.int .i64 ((a ||| b : Nat) : Int)) :=
  q_bin hx hy (by
    simp only [binV, arithI]
    rw [or_nat _ a b (by simp [IntKind.bits]; omega) (by simp [IntKind.bits]; omega)]
    have : a ||| b < 2 ^ 63 := Nat.or_lt_two_pow (by omega) (by omega)
    rw [wk_i64 (by omega) (by omega)])
theorem q_xorN {t t' : TypeId} {x y : Operand} {a b : Nat} (hx : ev L x = some (.int .i64 ((a : Nat) : Int))) (hy : ev L y = some (.int .i64 ((b : Nat) : Int))) (h : a ≤ 9223372036854775807) (h2 : b ≤ 9223372036854775807) : QOp P n R L (.binOp .xor t x y t') (.int .i64 ((a ^^^ b : Nat) : Int)) :=
  q_bin hx hy (by
    simp only [binV, arithI]
    rw [xor_nat _ a b (by simp [IntKind.bits]; omega) (by simp [IntKind.bits]; omega)]
    have : a ^^^ b < 2 ^ 63 := Nat.xor_lt_two_pow (by omega) (by omega)
    rw [wk_i64 (by omega) (by omega)])
theorem of64_nat (c : Nat) (h : c < 18446744073709551616) : (of64 ((c : Nat) : Int)).toNat = c := by have := of64_toNat (c : Int); omega
theorem q64_intN {s t : TypeId} {x : Operand} {a : UInt64} {ds : TypeDesc} (hs' : P.underlying s = some ds) (hu : P.underlying t = some (.int .i64)) (hx : ev L x = some (.int .u64 a.toNat)) (h : a.toNat < 9223372036854775808) : QOp P n R L (.convert s t x) (.int .i64 ((a.toNat : Nat) : Int)) :=
  qop_eq (q64_int hs' hu hx) (by rw [wk_i64 (by omega) (by omega)])
theorem q_convN {s t : TypeId} {x : Operand} {k : IntKind} {a : Nat} {ds : TypeDesc} (hs' : P.underlying s = some ds) (hu : P.underlying t = some (.int .i64)) (hx : ev L x = some (.int k ((a : Nat) : Int))) (h : a ≤ 9223372036854775807) : QOp P n R L (.convert s t x) (.int .i64 ((a : Nat) : Int)) :=
  qop_eq (q_conv hs' hu hx) (by rw [wk_i64 (by omega) (by omega)])

/-! ### Slices -/
theorem q_lenW {x : Operand} {t e : TypeId} {v : Value} {m : Nat} (hu : P.underlying t = some (.slice e)) (hx : ev L x = some v) (hv : SV v m) :
    QOp P n R L (.call { callee := .builtin .len, args := #[x], argTypes := #[t] }) (.int .i64 ((m : Nat) : Int)) := by
  obtain ⟨a, cap, rfl, _⟩ := hv
  exact q_len hu hx
theorem q_capW {x : Operand} {t e : TypeId} {a : Option Addr} {len cap : Nat} (hu : P.underlying t = some (.slice e)) (hx : ev L x = some (.slice a len cap)) :
    QOp P n R L (.call { callee := .builtin .cap, args := #[x], argTypes := #[t] }) (.int .i64 ((cap : Nat) : Int)) := by
  intro d ty pos af g ac w hs _
  simp only [execOp, resolve, invoke, builtin, List.map_toArray, List.map_cons, List.map_nil, hs.eval hx]
  simp [Builtin.cap_, run_underlying hu, goInt]
theorem q_idxW {t e : Nat} {x i : Operand} {v : Value} {m j : Nat} {k : IntKind} {z : Value} {sz by_ : Nat} (hu : P.underlying t = some (.slice e)) (he : TyI P e z sz by_)
    (hx : ev L x = some v) (hi : ev L i = some (.int k ((j : Nat) : Int))) (hv : SV v m) (h1 : j < m) :
    QOp P n R L (.indexAddr t x i) (.pointer (some ((sa v).add (j * sz)))) := by
  obtain ⟨a, cap, rfl, h2, h3, h4⟩ := hv
  cases a with
  | none => have := h4 rfl; omega
  | some ad => exact q_idxS hu he hx hi (by omega) (by omega) _ rfl
theorem q_idxW1 {t e : Nat} {x i : Operand} {v : Value} {m j : Nat} {k : IntKind} {z : Value} {by_ : Nat} (hu : P.underlying t = some (.slice e)) (he : TyI P e z 1 by_)
    (hx : ev L x = some v) (hi : ev L i = some (.int k ((j : Nat) : Int))) (hv : SV v m) (h1 : j < m) :
    QOp P n R L (.indexAddr t x i) (.pointer (some ((sa v).add j))) := by
  have := q_idxW (R := R) (n := n) hu he hx hi hv h1
  rwa [Nat.mul_one] at this
theorem q_idxA1 {t e len : Nat} {x i : Operand} {b : Nat} {k : IntKind} {j : Nat} {z : Value} {by_ : Nat} (hu : P.underlying t = some (.array len e)) (he : TyI P e z 1 by_)
    (hx : ev L x = some (.pointer (some ⟨b, 0, none⟩))) (hi : ev L i = some (.int k ((j : Nat) : Int))) (h1 : j < len) :
    QOp P n R L (.indexAddr t x i) (.pointer (some ⟨b, j, none⟩)) := q_idxA hu he hx hi (by omega) (by omega) _ (by simp)
theorem q_idxAN {t e len : Nat} {x i : Operand} {b off : Nat} {k : IntKind} {j : Nat} {z : Value} {sz by_ : Nat} (hu : P.underlying t = some (.array len e)) (he : TyI P e z sz by_)
    (hx : ev L x = some (.pointer (some ⟨b, off, none⟩))) (hi : ev L i = some (.int k ((j : Nat) : Int))) (h1 : j < len) :
    QOp P n R L (.indexAddr t x i) (.pointer (some ⟨b, off + j * sz, none⟩)) := q_idxA hu he hx hi (by omega) (by omega) _ (by simp)
/-- A load of one cell of what can be read. -/
theorem q_ldW {t : TypeId} {x : Operand} {v u : Value} {m sz j : Nat} {xs : List Value} {d : TypeDesc} (hu : P.underlying t = some d) (hd : isAggD d = false) (hx : ev L x = some (.pointer (some ((sa v).add j))))
    (hs : ∀ w, R w → Seen w.cell? v m sz xs) (hj : xs[j]? = some u) : QOp P n R L (.load t x) u := q_load1 hu hd hx fun w hw => (hs w hw).cellA hj
/-- A load of some cells of what can be read. -/
theorem q_ldWN {t : TypeId} {x : Operand} {v : Value} {m s' j : Nat} {xs : List Value} {d : TypeDesc} {z : Value} {sz by_ : Nat} (hu : P.underlying t = some d) (hd : isAggD d = true) (ht : TyI P t z sz by_) (hx : ev L x = some (.pointer (some ((sa v).add j))))
    (hs : ∀ w, R w → Seen w.cell? v m s' xs) (cs : List Value) (hc : (xs.drop j).take sz = cs) (hl : cs.length = sz) : QOp P n R L (.load t x) (.agg cs.toArray) :=
  q_loadN hu hd ht hx (fun w hw i u hi => by
    rw [addr_add_add]
    refine (hs w hw).cellA ?_
    rw [← hc, List.getElem?_take] at hi
    split at hi
    · rwa [List.getElem?_drop] at hi
    · cases hi) hl
/-- A load of one cell of a struct element: the cell k behind j. -/
theorem q_ldWF {t : TypeId} {x : Operand} {v u : Value} {m sz j k : Nat} {xs : List Value} {d : TypeDesc} (hu : P.underlying t = some d) (hd : isAggD d = false) (hx : ev L x = some (.pointer (some (((sa v).add j).add k))))
    (hs : ∀ w, R w → Seen w.cell? v m sz xs) (hj : xs[j + k]? = some u) : QOp P n R L (.load t x) u := q_load1 hu hd hx fun w hw => by rw [addr_add_add]; exact (hs w hw).cellA hj
theorem q_slWlh {t e : TypeId} {x l h : Operand} {v : Value} {m l' k' : Nat} {kl kh : IntKind} {z : Value} {sz by_ : Nat} (hu : P.underlying t = some (.slice e)) (he : TyI P e z sz by_)
    (hx : ev L x = some v) (hl : ev L l = some (.int kl ((l' : Nat) : Int))) (hh : ev L h = some (.int kh ((k' : Nat) : Int))) (hv : SV v m) (h1 : l' ≤ k') (h2 : k' ≤ m) :
    QOp P n R L (.slice t x (some l) (some h) none) (slv v l' k' sz) := by
  obtain ⟨a, cap, rfl, h3, _⟩ := hv
  exact q_sl_lh hu he hx hl hh (by omega) (by omega) (by omega) _ _ (by omega) (by omega)
theorem q_slWh {t e : TypeId} {x h : Operand} {v : Value} {m k' : Nat} {kh : IntKind} {z : Value} {sz by_ : Nat} (hu : P.underlying t = some (.slice e)) (he : TyI P e z sz by_)
    (hx : ev L x = some v) (hh : ev L h = some (.int kh ((k' : Nat) : Int))) (hv : SV v m) (h2 : k' ≤ m) :
    QOp P n R L (.slice t x none (some h) none) (slv v 0 k' sz) := by
  obtain ⟨a, cap, rfl, h3, _⟩ := hv
  exact q_sl_h hu he hx hh (by omega) (by omega) _ (by omega)
theorem q_slWl {t e : TypeId} {x l : Operand} {v : Value} {m l' : Nat} {kl : IntKind} {z : Value} {sz by_ : Nat} (hu : P.underlying t = some (.slice e)) (he : TyI P e z sz by_)
    (hx : ev L x = some v) (hl : ev L l = some (.int kl ((l' : Nat) : Int))) (hv : SV v m) (h1 : l' ≤ m) :
    QOp P n R L (.slice t x (some l) none none) (slv v l' m sz) := by
  obtain ⟨a, cap, rfl, h3, _⟩ := hv
  exact q_sl_l hu he hx hl (by omega) (by omega) _ (by omega)
/-- An array that lies in a block, as a slice. -/
def arv (b N : Nat) : Value := .slice (some ⟨b, 0, none⟩) N N
theorem arv_sv {b N : Nat} (h : N ≤ maxLen) : SV (arv b N) N := ⟨_, _, rfl, Nat.le_refl _, h, fun h => by cases h⟩
theorem q_arAll {t e : TypeId} {N : Nat} {x : Operand} {b : Nat} {z : Value} {sz by_ : Nat} (hu : P.underlying t = some (.array N e)) (he : TyI P e z sz by_) (h0 : Nat.beq N 0 = false)
    (hx : ev L x = some (.pointer (some ⟨b, 0, none⟩))) : QOp P n R L (.slice t x none none none) (arv b N) := by
  have hN : ¬ N = 0 := fun e => by subst e; simp at h0
  refine qop_eq (q_ar_all hu he hx) ?_
  unfold slicedAt arv
  rw [if_neg hN, Nat.zero_mul, addr_add_zero]; simp
theorem q_arLh {t e : TypeId} {N : Nat} {x l h : Operand} {b l' k' : Nat} {kl kh : IntKind} {z : Value} {sz by_ : Nat} (hu : P.underlying t = some (.array N e)) (he : TyI P e z sz by_)
    (hx : ev L x = some (.pointer (some ⟨b, 0, none⟩))) (hl : ev L l = some (.int kl ((l' : Nat) : Int))) (hh : ev L h = some (.int kh ((k' : Nat) : Int))) (h1 : l' ≤ k') (h2 : k' ≤ N) : QOp P n R L (.slice t x (some l) (some h) none) (slv (arv b N) l' k' sz) := by
  refine qop_eq (q_ar_lh hu he hx hl hh (by omega) (by omega) (by omega) l' k' (by omega) (by omega)) ?_
  unfold slicedAt slv arv sliced; simp [apply_ite]
theorem q_arH {t e : TypeId} {N : Nat} {x h : Operand} {b k' : Nat} {kh : IntKind} {z : Value} {sz by_ : Nat} (hu : P.underlying t = some (.array N e)) (he : TyI P e z sz by_)
    (hx : ev L x = some (.pointer (some ⟨b, 0, none⟩))) (hh : ev L h = some (.int kh ((k' : Nat) : Int))) (h2 : k' ≤ N) : QOp P n R L (.slice t x none (some h) none) (slv (arv b N) 0 k' sz) := by
  refine qop_eq (q_ar_h hu he hx hh (by omega) (by omega) k' (by omega)) ?_
  unfold slicedAt slv arv sliced; simp [apply_ite]
theorem q_arL {t e : TypeId} {N : Nat} {x l : Operand} {b l' : Nat} {kl : IntKind} {z : Value} {sz by_ : Nat} (hu : P.underlying t = some (.array N e)) (he : TyI P e z sz by_)
    (hx : ev L x = some (.pointer (some ⟨b, 0, none⟩))) (hl : ev L l = some (.int kl ((l' : Nat) : Int))) (h1 : l' ≤ N) : QOp P n R L (.slice t x (some l) none none) (slv (arv b N) l' N sz) := by
  refine qop_eq (q_ar_l hu he hx hl (by omega) (by omega) l' (by omega)) ?_
  unfold slicedAt slv arv sliced; simp [apply_ite]
theorem Mem.seenA (h : Mem w0 Ln M S w) {b N sz : Nat} {t : TypeId} {cs : List Value} [hm : HasB M b t cs] (hN : N ≤ maxLen) (hl : cs.length = N * sz) : Seen w.cell? (arv b N) N sz cs := seen_whole h.atB hN hl

theorem Repl.mem2 {α : Type} {l l' : List α} {x y : α} (h : Repl l x y l') : y ∈ l' := by
  induction h with
  | here => simp
  | there _ ih => exact List.mem_cons_of_mem _ ih
/-! ### Making slices -/
theorem sv_lit {b N : Nat} (h : N ≤ maxLen) : SV (.slice (some ⟨b, 0, none⟩) N N) N := ⟨_, _, rfl, Nat.le_refl _, h, fun h => by cases h⟩
/-- As TOp, and of what it leaves p is known. -/
def TOpP (P : Program) (Q : Exit → Act → World → Prop) (n : Cx) (R : World → Prop) (L : Slots) (op : Op) (ι : Type) (p : ι → Prop) (V : ι → Value) (R' : ι → World → Prop) : Prop :=
  ∀ (d : Option Tmp) (ty : TypeId) (pos : String) (af : Array Edge) (g : Option (Nat × Bool)) (a : Act) (w : World) (K : Act → World → Prop), Sl n a L → R w →
    (∀ x w', p x → R' x w' → K (a.put d (V x)) w') → (Oper.wp P ⟨d, op, ty, pos, af, g⟩ a w K Q)
theorem TOpP.t {op : Op} {ι : Type} {p : ι → Prop} {V : ι → Value} {R' : ι → World → Prop} (h : TOpP P Q n R L op ι p V R') : TOp P Q n R L op { x : ι // p x } (fun x => V x.1) (fun x => R' x.1) :=
  fun d ty pos af g a w K hs hr hk => h d ty pos af g a w K hs hr fun x w' hp h' => hk ⟨x, hp⟩ w' h'
theorem wpl_tp {d : Nat} {op : Op} {ty : TypeId} {pos : String} {af : Array Edge} {ι : Type} {p : ι → Prop} {V : ι → Value} {R' : ι → World → Prop} (hop : TOpP P Q n R L op ι p V R') (hd : Nat.blt d n.n = true) (next : ∀ x, p x → WPL P ops Q n (R' x) ((d, V x) :: L) rest) :
    WPL P ops Q n R L (⟨some d, op, ty, pos, af, none⟩ :: rest) := wpl_t hop.t hd fun x => next x.1 x.2
theorem wpd_tp {k fuel : Nat} {R0 : World → Prop} {listed : Array Bool} {d : Nat} {op : Op} {ty : TypeId} {pos : String} {af : Array Edge} {g : Option (Nat × Bool)} {ι : Type} {p : ι → Prop} {V : ι → Value} {R' : ι → World → Prop} (i : Nat) (hi : ops[i]? = some ⟨some d, op, ty, pos, af, g⟩) (hr : Region.ready .any ops listed = [i]) (hg : Wants ops L g)
    (hop : TOpP P Q n R L op ι p V R') (hd : Nat.blt d n.n = true) (hS : ∀ x w, R' x w → SK k R0 (listed.setIfInBounds i true) w)
    (next : ∀ x, p x → WPD P ops Q n k R0 (R' x) ((d, V x) :: L) fuel (listed.setIfInBounds i true)) : WPD P ops Q n k R0 R L (fuel + 1) listed := wpd_t i hi hr hg hop.t hd (fun x => hS x.1) fun x => next x.1 x.2
theorem TOp.rep {op : Op} {ι κ : Type} {p : κ → Prop} {V : ι → Value} {R' : ι → World → Prop} {V2 : κ → Value} {R2 : κ → World → Prop} (h : TOp P Q n R L op ι V R') (hm : ∀ x w, R' x w → ∃ y, p y ∧ V x = V2 y ∧ R2 y w) : TOpP P Q n R L op κ p V2 R2 := by
  intro d ty pos af g a w K hs hr hk
  refine h d ty pos af g a w K hs hr fun x w' h' => ?_
  obtain ⟨y, hp, e, h2⟩ := hm x w' h'
  rw [e]; exact hk y w' hp h2
/-- What a call's contract says, with what is known of it. -/
def GivesP {ι : Type} (w : World) (p : ι → Prop) (V : ι → Value) (N : ι → List Ent) (T : ι → List Fact) (e : Ending) (w' : World) : Prop :=
  ∃ x, p x ∧ e = .returned (V x) ∧ Below w.heap.size w w' ∧ New w.heap.size (N x) (T x) w'
instance nop_givesP {fn : Func} {w : World} {ι : Type} {p : ι → Prop} {V : ι → Value} {N : ι → List Ent} {T : ι → List Fact} : NoP (bodyPost P fn (GivesP w p V N T)) := nop_post fun c w' ⟨x, _, h, _⟩ => by cases h
theorem t_callP {k : FuncId} {args : Array Operand} {at_ : Array TypeId} {vs : List Value} {ι : Type} {p : ι → Prop} {V : ι → Value} {N : ι → List Ent} {T : ι → List Fact}
    (hb : HasBody P k) (hv : evs L args.toList = some vs) (hc : ∀ w, Mem w0 Ln M S w → Calls P k vs.toArray w (GivesP w p V N T)) :
    TOpP P Q n (Mem w0 Ln M S) L (.call { callee := .value (.func k), args := args, argTypes := at_ }) ι p V (fun x => Mem w0 Ln (N x ++ M) (T x ++ S)) := by
  have h := t_call (Q := Q) (P := P) (L := L) (n := n) (w0 := w0) (Ln := Ln) (M := M) (S := S) (at_ := at_) (ι := { x : ι // p x }) (V := fun x => V x.1) (N := fun x => N x.1) (T := fun x => T x.1) hb hv fun w hm => (hc w hm).mono fun e w' h => by
    obtain ⟨x, hp, he, h1, h2⟩ := h
    exact ⟨⟨x, hp⟩, he, h1, h2⟩
  exact h.rep fun x w h => ⟨x.1, x.2, rfl, h⟩
/-- A call that makes one thing, two things, three. -/
theorem t_callP1 {k : FuncId} {args : Array Operand} {at_ : Array TypeId} {vs : List Value} {ι : Type} {p : ι → Prop} {V : ι → Value} {E : ι → Ent}
    (hb : HasBody P k) (hv : evs L args.toList = some vs) (hc : ∀ w, Mem w0 Ln M S w → Calls P k vs.toArray w (GivesP w p V (fun x => [E x]) fun _ => [])) :
    TOpP P Q n (Mem w0 Ln M S) L (.call { callee := .value (.func k), args := args, argTypes := at_ }) ι p V (fun x => Mem w0 Ln (E x :: M) S) := t_callP hb hv hc
theorem t_callP2 {k : FuncId} {args : Array Operand} {at_ : Array TypeId} {vs : List Value} {ι : Type} {p : ι → Prop} {V : ι → Value} {E F : ι → Ent}
    (hb : HasBody P k) (hv : evs L args.toList = some vs) (hc : ∀ w, Mem w0 Ln M S w → Calls P k vs.toArray w (GivesP w p V (fun x => [E x, F x]) fun _ => [])) :
    TOpP P Q n (Mem w0 Ln M S) L (.call { callee := .value (.func k), args := args, argTypes := at_ }) ι p V (fun x => Mem w0 Ln (E x :: F x :: M) S) := t_callP hb hv hc
theorem t_callP3 {k : FuncId} {args : Array Operand} {at_ : Array TypeId} {vs : List Value} {ι : Type} {p : ι → Prop} {V : ι → Value} {E F G : ι → Ent}
    (hb : HasBody P k) (hv : evs L args.toList = some vs) (hc : ∀ w, Mem w0 Ln M S w → Calls P k vs.toArray w (GivesP w p V (fun x => [E x, F x, G x]) fun _ => [])) :
    TOpP P Q n (Mem w0 Ln M S) L (.call { callee := .value (.func k), args := args, argTypes := at_ }) ι p V (fun x => Mem w0 Ln (E x :: F x :: G x :: M) S) := t_callP hb hv hc
/-- The same of a contract of the elder form. -/
theorem t_call1 {k : FuncId} {args : Array Operand} {at_ : Array TypeId} {vs : List Value} {m : Nat} {e : TypeId} {sz : Nat} {xs : List Value}
    (hb : HasBody P k) (hv : evs L args.toList = some vs) (hc : ∀ w, Mem w0 Ln M S w → Calls P k vs.toArray w (Gives w (fun v : Value => v) (fun v => [.row v m e sz xs]) fun _ => [])) :
    TOpP P Q n (Mem w0 Ln M S) L (.call { callee := .value (.func k), args := args, argTypes := at_ }) Value (fun v => SV v m) (fun v => v) (fun v => Mem w0 Ln (.row v m e sz xs :: M) S) :=
  (t_call hb hv hc).rep fun v w h => ⟨v, (show Mem w0 Ln (.row v m e sz xs :: M) S w from h).svV, rfl, h⟩
/-- What an operation leaves is told by less. -/
theorem TOp.re {op : Op} {ι κ : Type} {V : ι → Value} {R' : ι → World → Prop} {V2 : κ → Value} {R2 : κ → World → Prop} (h : TOp P Q n R L op ι V R') (hm : ∀ x w, R' x w → ∃ y, V x = V2 y ∧ R2 y w) : TOp P Q n R L op κ V2 R2 := by
  intro d ty pos af g a w K hs hr hk
  refine h d ty pos af g a w K hs hr fun x w' h' => ?_
  obtain ⟨y, e, h2⟩ := hm x w' h'
  rw [e]; exact hk y w' h2
theorem t_bsW {t e : TypeId} {len : Nat} {parts : Array (Nat × Operand)} {vs : List (Nat × Value)} (cs : List Value) {z : Value} {sz by_ : Nat} (hu : P.underlying t = some (.slice e)) (he : TyI P e z sz by_)
    (hv : evp L parts.toList = some vs) (hsmall : len * sz ≤ 2 ^ 24) (hpos : 0 < len * sz) (hz1 : z.cells.size = sz)
    (hf : Instr.fill (fun i => some (i * sz, sz)) ((List.replicate len z.cells.toList).flatten).toArray vs = some cs.toArray) (hl : cs.length = len * sz) :
    TOpP P Q n (Mem w0 Ln M S) L (.buildSlice t len parts) Value (fun v => SV v len) (fun v => v) (fun v => Mem w0 Ln (.row v len e sz cs :: M) S) :=
  (t_buildSlice cs hu he hv hsmall hpos hz1 hf hl).rep fun b w h => ⟨_, sv_lit (by
    have : len ≤ len * sz := by
      rcases Nat.eq_zero_or_pos sz with h | h
      · rw [h] at hpos; omega
      · exact Nat.le_mul_of_pos_right _ h
    simp only [maxLen]; omega), rfl, h⟩
/-- A slice out of values of one cell each. -/
theorem t_bsV {t e : TypeId} {len : Nat} {parts : Array (Nat × Operand)} (vs : List Value) {z : Value} {by_ : Nat} (hu : P.underlying t = some (.slice e)) (he : TyI P e z 1 by_) (hz1 : z.cells.size = 1)
    (hv : evp L parts.toList = some ((vs.zipIdx 0).map fun x => (x.2, x.1))) (hsmall : len ≤ 2 ^ 24) (hpos : 0 < len) (hl : vs.length = len) (h1 : ∀ v ∈ vs, v.oneCell' = true) :
    TOpP P Q n (Mem w0 Ln M S) L (.buildSlice t len parts) Value (fun v => SV v len) (fun v => v) (fun v => Mem w0 Ln (.row v len e 1 vs :: M) S) := by
  refine t_bsW vs hu he hv (by omega) (by omega) hz1 ?_ (by omega)
  have h2 := Great.fill_flat vs ((List.replicate len z.cells.toList).flatten).toArray (fun v hv => by have := h1 v hv; cases v <;> first | rfl | simp [Value.oneCell'] at this) (by simp [hz1, hl])
  simp only [Nat.mul_one]
  simpa using h2
theorem t_bs0W {t e : TypeId} {z : Value} {sz by_ : Nat} (hu : P.underlying t = some (.slice e)) (he : TyI P e z sz by_) :
    TOpP P Q n (Mem w0 Ln M S) L (.buildSlice t 0 #[]) Value (fun v => SV v 0) (fun v => v) (fun v => Mem w0 Ln (.row v 0 e sz [] :: M) S) :=
  (t_buildSlice0 hu he).rep fun b w h => ⟨_, sv_lit (Nat.zero_le _), rfl, h⟩
theorem t_mkW {t e : TypeId} {x y : Operand} {kl kc : IntKind} {l c : Nat} {z : Value} {sz by_ : Nat} (hu : P.underlying t = some (.slice e)) (he : TyI P e z sz by_) (hx : ev L x = some (.int kl ((l : Nat) : Int))) (hy : ev L y = some (.int kc ((c : Nat) : Int)))
    (hlc : l ≤ c) (hb : by_ * c ≤ 281474976710656) (h63 : c ≤ maxLen) (xs : List Value) (hz1 : z.cells.size = sz) (hxs : (List.replicate l z.cells.toList).flatten = xs) :
    TOpP P Q n (Mem w0 Ln M S) L (.makeSlice t x y) Value (fun v => SV v l) (fun v => v) (fun v => Mem w0 Ln (.row v l e sz xs :: M) S) :=
  (t_makeSlice hu he hx hy (by omega) (by omega) (by
    have : ((by_ * c : Nat) : Int) ≤ 281474976710656 := by omega
    simpa using this) (by simp only [maxLen] at h63; omega) l c (by omega) (by omega) xs hz1 hxs).rep fun b w h => ⟨_, ⟨_, _, rfl, hlc, h63, fun h => by cases h⟩, rfl, h⟩
/-- append(s, x...), s a row of one's own. -/
theorem t_apW {t e : TypeId} {s x : Operand} {v u : Value} {m k : Nat} {xs news : List Value} {f : Ent → List Ent} {z : Value} {sz by_ : Nat} (hu : P.underlying t = some (.slice e)) (he : TyI P e z sz by_) (hz1 : z.cells.size = sz) (hsz : 0 < sz)
    (hs_ : ev L s = some v) (hx : ev L x = some u) [hr : ReplV M v m e sz xs f] (hsrc : ∀ w, Mem w0 Ln M S w → Seen w.cell? u k sz news) (h1 : ∀ u ∈ news, u.oneCell' = true)
    (h63 : m + k ≤ maxLen) (hby : (m + k) * by_ ≤ 140737488355328) (ys : List Value) (hys : xs ++ news = ys) :
    TOpP P Q n (Mem w0 Ln M S) L (.call { callee := .builtin .append, args := #[s, x], argTypes := #[t, t] }) Value (fun v' => SV v' (m + k)) (fun v' => v') (fun v' => Mem w0 Ln (f (.row v' (m + k) e sz ys)) S) := by
  subst hys
  exact (t_append hu he hz1 hsz hs_ hx hsrc h1 h63 hby).rep fun v' w h => ⟨v', (h.row_form (hr.out _).mem2).elim (fun h => by
      obtain ⟨rfl, h2, _⟩ := h
      rw [h2]; exact SV.nil) fun ⟨g, cap, h, h2, h3⟩ => ⟨_, _, h, h2, h3, fun h => by cases h⟩, rfl, h⟩
/-- append(s, x...), s an empty row of one's own. -/
theorem t_ap0 {t e : TypeId} {s x : Operand} {v u : Value} {k : Nat} {news : List Value} {f : Ent → List Ent} {z : Value} {sz by_ : Nat} (hu : P.underlying t = some (.slice e)) (he : TyI P e z sz by_) (hz1 : z.cells.size = sz) (hsz : 0 < sz)
    (hs_ : ev L s = some v) (hx : ev L x = some u) [hr : ReplV M v 0 e sz [] f] (hsrc : ∀ w, Mem w0 Ln M S w → Seen w.cell? u k sz news) (h1 : ∀ u ∈ news, u.oneCell' = true)
    (h63 : k ≤ maxLen) (hby : k * by_ ≤ 140737488355328) :
    TOpP P Q n (Mem w0 Ln M S) L (.call { callee := .builtin .append, args := #[s, x], argTypes := #[t, t] }) Value (fun v' => SV v' k) (fun v' => v') (fun v' => Mem w0 Ln (f (.row v' k e sz news)) S) := by
  have h := t_apW (P := P) (Q := Q) (n := n) (L := L) (M := M) (w0 := w0) (Ln := Ln) (S := S) hu he hz1 hsz hs_ hx (hr := hr) hsrc h1 (by omega) (by simpa using hby) news rfl
  rw [Nat.zero_add] at h
  exact h
/-- append(s, x...) where s is the nil slice that is written in the text. -/
theorem t_apN {t e : TypeId} {s x : Operand} {u : Value} {k : Nat} {news : List Value} {z : Value} {sz by_ : Nat} (hu : P.underlying t = some (.slice e)) (he : TyI P e z sz by_) (hz1 : z.cells.size = sz) (hsz : 0 < sz)
    (hs_ : ev L s = some (.slice none 0 0)) (hx : ev L x = some u) (hsrc : ∀ w, Mem w0 Ln M S w → Seen w.cell? u k sz news) (h1 : ∀ u ∈ news, u.oneCell' = true)
    (h63 : k ≤ maxLen) (hby : k * by_ ≤ 140737488355328) :
    TOpP P Q n (Mem w0 Ln M S) L (.call { callee := .builtin .append, args := #[s, x], argTypes := #[t, t] }) Value (fun v' => SV v' k) (fun v' => v') (fun v' => Mem w0 Ln (.row v' k e sz news :: M) S) := by
  intro d ty pos af g a w K hs hr hk
  have h2 := t_apW (P := P) (Q := Q) (n := n) (L := L) (M := .row (.slice none 0 0) 0 e sz [] :: M) (w0 := w0) (Ln := Ln) (S := S) hu he hz1 hsz hs_ hx (fun w h => hsrc w (h.sub (.drop (Sub.refl _)) (Sub.refl _))) h1 (by omega) (by simpa using hby) news rfl
  refine h2 d ty pos af g a w K hs (hr.nilRow e sz) fun v w' hv h' => ?_
  rw [Nat.zero_add] at hv
  exact hk v w' hv (by simpa using h')
/-- Cells stored into a row of one's own. -/
theorem Mem.setRowN {M' : List Ent} {v : Value} {m : Nat} {e : TypeId} {sz j : Nat} {xs vs ys : List Value} (h : Mem w0 Ln M S w) (hr : Repl M (.row v m e sz xs) (.row v m e sz ys) M') {k cap : Nat} {cs : Array Value} (hv : v = .slice (some ⟨k, 0, none⟩) m cap)
    (hk : w.heap[k]? = some (.cells cs e (0, 0))) (hj : j + vs.length ≤ xs.length) (hys : xs.take j ++ vs ++ xs.drop (j + vs.length) = ys) :
    Mem w0 Ln M' S (w.setRow k (cs.toList.take j ++ vs ++ cs.toList.drop (j + vs.length)).toArray) := by
  subst hv hys
  have hown : w.ownsRow 0 e sz _ m xs := h.own _ hr.mem
  obtain ⟨h1, h2, h3, h4⟩ := setRow_frame w k (cs.toList.take j ++ vs ++ cs.toList.drop (j + vs.length)).toArray
  refine h.turn hr h1 h2 h3 (by omega) (fun k' _ hne => setRow_other w k k' _ (fun e => hne (by simp [Ent.num, Value.ownBlock, e]))) ?_ (fun k hk => .inl hk)
  rcases hown.2 with ⟨h5, _⟩ | ⟨g, cp, cur, h5, h6, h7, h8, h9, h10, h11⟩
  · cases h5
  · simp at h5
    obtain ⟨rfl, rfl⟩ := h5
    rw [hk] at h7
    simp at h7
    subst h7
    have hlen := hown.1
    have hle : xs.length ≤ cs.toList.length := by rw [← h11, List.length_take]; omega
    refine ⟨by simp [List.length_take, List.length_drop]; omega, .inr ⟨k, cap, _, rfl, h6, setRow_heap w k _ _ e _ hk, h8, h9, ?_, ?_⟩⟩
    · have : cs.toList.length = cap * sz := by simpa using h10
      simp [List.length_take, List.length_drop] at hle ⊢; omega
    · have hx : xs = cs.toList.take (m * sz) := h11.symm
      have hll : (cs.toList.take (m * sz)).length = m * sz := by rw [← hx]; exact hlen
      rw [hx]
      simp only [List.take_append, List.length_append, List.length_take, List.drop_take, List.take_take]
      have e1 : min j cs.toList.length = j := by omega
      have e2 : min j (m * sz) = j := by omega
      rw [e1, Nat.min_comm, e2, List.take_of_length_le (l := vs) (by omega)]
theorem t_stWN {t : TypeId} {x y : Operand} {v u : Value} {m j : Nat} {e : TypeId} {s' : Nat} {xs vs : List Value} {f : Ent → List Ent} {z : Value} {sz by_ : Nat} (ht : TyI P t z sz by_)
    (hx : ev L x = some (.pointer (some ((sa v).add j)))) (hy : ev L y = some u) [hr : ReplV M v m e s' xs f] (hu : u.cells.toList = vs) (hl : vs.length = sz) (h1 : ∀ u ∈ vs, u.oneCell' = true) (hin : j + vs.length ≤ xs.length) (hpos : 0 < xs.length) (ys : List Value)
    (hys : xs.take j ++ vs ++ xs.drop (j + vs.length) = ys) :
    TOp P Q n (Mem w0 Ln M S) L (.store t x y) Unit (fun _ => undef) (fun _ => Mem w0 Ln (f (.row v m e s' ys)) S) := by
  intro d ty pos af g a w K hs hm hk
  subst hu
  have hown : w.ownsRow 0 e s' v m xs := hm.own _ (hr.out (.blk 0 0 [])).mem
  rcases hown.2 with ⟨rfl, rfl⟩ | ⟨g', cp, cur, rfl, h6, h7, h8, h9, h10, h11⟩
  · have := hown.1; omega
  · have hle : xs.length ≤ cur.toList.length := by rw [← h11, List.length_take]; omega
    have hst := run_storeCells_at (P := P) g' j e u.cells.toList 0 cur w h7 (by simp at hle ⊢; simp at hin; omega) h1
    simp only [Nat.add_zero] at hst
    have hsa : (sa (.slice (some ⟨g', 0, none⟩) m cp)).add j = ⟨g', j, none⟩ := by show (⟨g', 0, none⟩ : Addr).add j = _; rw [add_lit, Nat.zero_add]
    rw [hsa] at hx
    have hrun : (execOp a.eval ⟨d, .store t x y, ty, pos, af, g⟩).run P w = .ok .skip (w.setRow g' (cur.toList.take j ++ u.cells.toList ++ cur.toList.drop (j + u.cells.toList.length)).toArray) := by
      simp only [execOp, hs.eval hx, hs.eval hy]
      have hl' : u.cells.size = sz := by simpa using hl
      simp only [Instr.storeAt, Instr.sureAddr, storeVar]
      simp [run_sz ht, hl', hst]
    unfold Oper.wp
    rw [hrun]
    exact hk () _ (hm.setRowN (hr.out _) rfl h7 hin hys)
theorem t_stW {t : TypeId} {x y : Operand} {v u : Value} {m j : Nat} {e : TypeId} {s' : Nat} {xs : List Value} {f : Ent → List Ent} {z : Value} {by_ : Nat} (ht : TyI P t z 1 by_)
    (hx : ev L x = some (.pointer (some ((sa v).add j)))) (hy : ev L y = some u) [hr : ReplV M v m e s' xs f] (h1 : u.oneCell' = true) (hin : j < xs.length) (ys : List Value) (hys : xs.set j u = ys) :
    TOp P Q n (Mem w0 Ln M S) L (.store t x y) Unit (fun _ => undef) (fun _ => Mem w0 Ln (f (.row v m e s' ys)) S) := by
  have hv : u.cells.toList = [u] := by cases u <;> first | rfl | simp [Value.oneCell'] at h1
  refine t_stWN ht hx hy hv rfl (by simpa using h1) (by simp; omega) (by omega) ys ?_
  rw [← hys, List.set_eq_take_append_cons_drop, if_pos hin]
  simp
/-- The cell k of a struct element. -/
theorem t_stWF {t : TypeId} {x y : Operand} {v u : Value} {m j k : Nat} {e : TypeId} {s' : Nat} {xs : List Value} {f : Ent → List Ent} {z : Value} {by_ : Nat} (ht : TyI P t z 1 by_)
    (hx : ev L x = some (.pointer (some (((sa v).add j).add k)))) (hy : ev L y = some u) [hr : ReplV M v m e s' xs f] (h1 : u.oneCell' = true) (hin : j + k < xs.length) (ys : List Value) (hys : xs.set (j + k) u = ys) :
    TOp P Q n (Mem w0 Ln M S) L (.store t x y) Unit (fun _ => undef) (fun _ => Mem w0 Ln (f (.row v m e s' ys)) S) := by
  rw [addr_add_add] at hx
  exact t_stW ht hx hy h1 hin ys hys

/-! ### Shifts by counts that were converted -/
theorem q8_shlC {t t' : TypeId} {x y : Operand} {a : UInt8} {c : Nat} (hx : ev L x = some (.int .u8 a.toNat)) (hy : ev L y = some (.int .u64 ((of64 ((c : Nat) : Int)).toNat))) (hc : c < 18446744073709551616) : QOp P n R L (.binOp .shl t x y t') (.int .u8 (sl8 a c).toNat) :=
  q8_shl hx hy (by omega) c (by rw [of64_nat c hc]; simp)
theorem q8_shrC {t t' : TypeId} {x y : Operand} {a : UInt8} {c : Nat} (hx : ev L x = some (.int .u8 a.toNat)) (hy : ev L y = some (.int .u64 ((of64 ((c : Nat) : Int)).toNat))) (hc : c < 18446744073709551616) : QOp P n R L (.binOp .shr t x y t') (.int .u8 (sr8 a c).toNat) :=
  q8_shr hx hy (by omega) c (by rw [of64_nat c hc]; simp)
theorem mk8 (l : Nat) : (List.replicate l (Value.int .u8 0).cells.toList).flatten = v8s (List.replicate l 0) := by
  induction l with
  | zero => rfl
  | succ l ih => rw [List.replicate_succ, List.flatten_cons, ih]; rfl
theorem q16_shlC {t t' : TypeId} {x y : Operand} {a : UInt16} {c : Nat} (hx : ev L x = some (.int .u16 a.toNat)) (hy : ev L y = some (.int .u64 ((of64 ((c : Nat) : Int)).toNat))) (hc : c < 18446744073709551616) : QOp P n R L (.binOp .shl t x y t') (.int .u16 (sl16 a c).toNat) :=
  q16_shl hx hy (by omega) c (by rw [of64_nat c hc]; simp)
theorem q16_shrC {t t' : TypeId} {x y : Operand} {a : UInt16} {c : Nat} (hx : ev L x = some (.int .u16 a.toNat)) (hy : ev L y = some (.int .u64 ((of64 ((c : Nat) : Int)).toNat))) (hc : c < 18446744073709551616) : QOp P n R L (.binOp .shr t x y t') (.int .u16 (sr16 a c).toNat) :=
  q16_shr hx hy (by omega) c (by rw [of64_nat c hc]; simp)
theorem mk16 (l : Nat) : (List.replicate l (Value.int .u16 0).cells.toList).flatten = v16s (List.replicate l 0) := by
  induction l with
  | zero => rfl
  | succ l ih => rw [List.replicate_succ, List.flatten_cons, ih]; rfl
theorem q32_shlC {t t' : TypeId} {x y : Operand} {a : UInt32} {c : Nat} (hx : ev L x = some (.int .u32 a.toNat)) (hy : ev L y = some (.int .u64 ((of64 ((c : Nat) : Int)).toNat))) (hc : c < 18446744073709551616) : QOp P n R L (.binOp .shl t x y t') (.int .u32 (sl32 a c).toNat) :=
  q32_shl hx hy (by omega) c (by rw [of64_nat c hc]; simp)
theorem q32_shrC {t t' : TypeId} {x y : Operand} {a : UInt32} {c : Nat} (hx : ev L x = some (.int .u32 a.toNat)) (hy : ev L y = some (.int .u64 ((of64 ((c : Nat) : Int)).toNat))) (hc : c < 18446744073709551616) : QOp P n R L (.binOp .shr t x y t') (.int .u32 (sr32 a c).toNat) :=
  q32_shr hx hy (by omega) c (by rw [of64_nat c hc]; simp)
theorem mk32 (l : Nat) : (List.replicate l (Value.int .u32 0).cells.toList).flatten = v32s (List.replicate l 0) := by
  induction l with
  | zero => rfl
  | succ l ih => rw [List.replicate_succ, List.flatten_cons, ih]; rfl
theorem q64_shlC {t t' : TypeId} {x y : Operand} {a : UInt64} {c : Nat} (hx : ev L x = some (.int .u64 a.toNat)) (hy : ev L y = some (.int .u64 ((of64 ((c : Nat) : Int)).toNat))) (hc : c < 18446744073709551616) : QOp P n R L (.binOp .shl t x y t') (.int .u64 (sl64 a c).toNat) :=
  q64_shl hx hy (by omega) c (by rw [of64_nat c hc]; simp)
theorem q64_shrC {t t' : TypeId} {x y : Operand} {a : UInt64} {c : Nat} (hx : ev L x = some (.int .u64 a.toNat)) (hy : ev L y = some (.int .u64 ((of64 ((c : Nat) : Int)).toNat))) (hc : c < 18446744073709551616) : QOp P n R L (.binOp .shr t x y t') (.int .u64 (sr64 a c).toNat) :=
  q64_shr hx hy (by omega) c (by rw [of64_nat c hc]; simp)
theorem mk64 (l : Nat) : (List.replicate l (Value.int .u64 0).cells.toList).flatten = v64s (List.replicate l 0) := by
  induction l with
  | zero => rfl
  | succ l ih => rw [List.replicate_succ, List.flatten_cons, ih]; rfl
theorem mki (l : Nat) : (List.replicate l (Value.int .i64 0).cells.toList).flatten = vis (List.replicate l 0) := by
  induction l with
  | zero => rfl
  | succ l ih => rw [List.replicate_succ, List.flatten_cons, ih]; rfl
/-! ### Truth, once it is known; loops whose other slots stay -/
theorem wpl_bool (t : Nat) {c : Bool} (h : get L t = some (.bool c)) (ht : c = true → WPL P ops Q n R ((t, .bool true) :: L) rest) (hf : c = false → WPL P ops Q n R ((t, .bool false) :: L) rest) : WPL P ops Q n R L rest := by
  have key : ∀ b, c = b → WPL P ops Q n R ((t, .bool b) :: L) rest → WPL P ops Q n R L rest := fun b e h2 a w hs hr => h2 a w (hs.weaken fun t' v hv => by
    rw [get_cons] at hv
    by_cases ee : t = t'
    · subst ee; simp only [if_true] at hv; cases hv; rw [h, e]
    · rw [if_neg ee] at hv; exact hv) hr
  cases c with
  | true => exact key true rfl (ht rfl)
  | false => exact key false rfl (hf rfl)
theorem wpd_bool {k fuel : Nat} {R0 : World → Prop} {listed : Array Bool} (t : Nat) {c : Bool} (h : get L t = some (.bool c)) (ht : c = true → WPD P ops Q n k R0 R ((t, .bool true) :: L) fuel listed) (hf : c = false → WPD P ops Q n k R0 R ((t, .bool false) :: L) fuel listed) :
    WPD P ops Q n k R0 R L fuel listed := by
  have key : ∀ b, c = b → WPD P ops Q n k R0 R ((t, .bool b) :: L) fuel listed → WPD P ops Q n k R0 R L fuel listed := fun b e h2 a w hs hr => h2 a w (hs.weaken fun t' v hv => by
    rw [get_cons] at hv
    by_cases ee : t = t'
    · subst ee; simp only [if_true] at hv; cases hv; rw [h, e]
    · rw [if_neg ee] at hv; exact hv) hr
  cases c with
  | true => exact key true rfl (ht rfl)
  | false => exact key false rfl (hf rfl)
theorem wpl_bool2 (t t' : Nat) {c : Bool} (h : get L t = some (.bool c)) (h' : get L t' = some (.bool c)) (ht : c = true → WPL P ops Q n R ((t, .bool true) :: (t', .bool true) :: L) rest) (hf : c = false → WPL P ops Q n R ((t, .bool false) :: (t', .bool false) :: L) rest) : WPL P ops Q n R L rest := by
  refine wpl_bool t' h' (fun e => ?_) (fun e => ?_)
  · subst e
    by_cases ee : t' = t
    · subst ee; exact wpl_bool t' (by rw [get_cons, if_pos rfl]) (fun _ => ht rfl) (fun e => by cases e)
    · exact wpl_bool t (by rw [get_cons, if_neg ee, h]) (fun _ => ht rfl) (fun e => by cases e)
  · subst e
    by_cases ee : t' = t
    · subst ee; exact wpl_bool t' (by rw [get_cons, if_pos rfl]) (fun e => by cases e) (fun _ => hf rfl)
    · exact wpl_bool t (by rw [get_cons, if_neg ee, h]) (fun e => by cases e) (fun _ => hf rfl)
theorem wpd_bool2 {k fuel : Nat} {R0 : World → Prop} {listed : Array Bool} (t t' : Nat) {c : Bool} (h : get L t = some (.bool c)) (h' : get L t' = some (.bool c)) (ht : c = true → WPD P ops Q n k R0 R ((t, .bool true) :: (t', .bool true) :: L) fuel listed) (hf : c = false → WPD P ops Q n k R0 R ((t, .bool false) :: (t', .bool false) :: L) fuel listed) : WPD P ops Q n k R0 R L fuel listed := by
  refine wpd_bool t' h' (fun e => ?_) (fun e => ?_)
  · subst e
    by_cases ee : t' = t
    · subst ee; exact wpd_bool t' (by rw [get_cons, if_pos rfl]) (fun _ => ht rfl) (fun e => by cases e)
    · exact wpd_bool t (by rw [get_cons, if_neg ee, h]) (fun _ => ht rfl) (fun e => by cases e)
  · subst e
    by_cases ee : t' = t
    · subst ee; exact wpd_bool t' (by rw [get_cons, if_pos rfl]) (fun e => by cases e) (fun _ => hf rfl)
    · exact wpd_bool t (by rw [get_cons, if_neg ee, h]) (fun e => by cases e) (fun _ => hf rfl)
theorem wpc_loopc {c : Code} {ι : Type} (Lc : Slots) (Li : ι → Slots → Slots) (Ri : ι → World → Prop) (μ : ι → Nat) (x0 : ι) (h0 : subs L (Li x0 Lc)) (hR : ∀ w, R w → Ri x0 w)
    (round : ∀ x, WPC P (Exit.then (Again n (fun x => Li x Lc) Ri μ x) Q) n (Ri x) (Li x Lc) c) : WPC P Q n R L (.loop c) := wpc_loop (fun x => Li x Lc) Ri μ x0 h0 hR round
theorem wpc_cutc {x y : Code} (ι : Type) (Lc : Slots) (L' : ι → Slots → Slots) (R' : ι → World → Prop) (h1 : WPC P (Exit.then (Mid n (fun i => L' i Lc) R') Q) n R L x) (h2 : ∀ i, WPC P Q n (R' i) (L' i Lc) y) : WPC P Q n R L (.seq x y) := wpc_cut ι (fun i => L' i Lc) R' h1 h2
end
end Go.PL
