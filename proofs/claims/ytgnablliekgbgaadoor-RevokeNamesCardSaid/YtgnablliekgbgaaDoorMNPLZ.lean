import Derived.Test.YtgnablliekgbgaaDoorMNPLI
import Derived.OpenShut
import Derived.ChangeArms
set_option linter.unusedSimpArgs false
set_option linter.unusedVariables false
/- Slices whose value stays shut: length, elements, parts, appending, making; whole numbers that are not negative. -/
namespace Go.PL
open Go Go.RowKit
def SV (v : Value) (n : Nat) : Prop := ∃ a cap, v = .slice a n cap ∧ n ≤ cap ∧ cap ≤ maxLen ∧ (a = none → cap = 0)
def sa : Value → Addr
  | .slice (some a) _ _ => a
  | _ => ⟨0, 0, none⟩
def slv (v : Value) (l k sz : Nat) : Value := match v with
  | .slice a _ cap => sliced a l k cap sz
  | _ => undef
theorem SV.nil : SV (.slice none 0 0) 0 := ⟨none, 0, rfl, Nat.le_refl _, Nat.zero_le _, fun _ => rfl⟩
theorem SV.le {v : Value} {n : Nat} (h : SV v n) : n ≤ maxLen := by obtain ⟨a, cap, _, h2, h3, _⟩ := h; omega
theorem SV.cells {v : Value} {n : Nat} (h : SV v n) : v.cells.toList = [v] := by obtain ⟨a, cap, rfl, _⟩ := h; rfl
theorem SV.one {v : Value} {n : Nat} (h : SV v n) : v.oneCell' = true := by obtain ⟨a, cap, rfl, _⟩ := h; rfl
theorem SV.slv {v : Value} {n : Nat} (h : SV v n) {l k sz : Nat} (h1 : l ≤ k) (h2 : k ≤ n) : SV (slv v l k sz) (k - l) := by
  obtain ⟨a, cap, rfl, h3, h4, h5⟩ := h
  refine ⟨_, _, rfl, zz12, zz12, fun h => ?_⟩
  split at h
  · omega
  · cases a with
    | none => have := h5 rfl; omega
    | some a => simp at h
theorem Seen.sv {r : Rd} {v : Value} {m sz : Nat} {vs : List Value} (h : Seen r v m sz vs) : SV v m := h.form
theorem Seen.slv {r : Rd} {v : Value} {m sz : Nat} {vs : List Value} (h : Seen r v m sz vs) (l k : Nat) (h1 : l ≤ k) (h2 : k ≤ m) : Seen r (slv v l k sz) (k - l) sz ((vs.drop (l * sz)).take ((k - l) * sz)) := by
  obtain ⟨a, cap, rfl, _⟩ := h.form
  exact h.slice l k h1 h2
theorem Seen.cellA {r : Rd} {v : Value} {m sz : Nat} {vs : List Value} (h : Seen r v m sz vs) {j : Nat} {u : Value} (hj : vs[j]? = some u) : r ((sa v).add j) = some u := by
  obtain ⟨h1, a, cap, rfl, h3, h4, h5⟩ := h
  rcases h5 with ⟨rfl, rfl⟩ | ⟨ad, rfl, h6⟩
  · obtain rfl : m = 0 := by omega
    obtain rfl : vs = [] := List.eq_nil_of_length_eq_zero (by simpa using h1)
    simp at hj
  · exact h6 j u hj
section
variable {P : Program} {n : Cx} {R : World → Prop} {L : Slots} {Q : Exit → Act → World → Prop} {ops : Array Oper} {rest : List Oper}
variable {w0 w : World} {Ln : List Nat} {M : List Ent} {S : List Fact}
theorem Mem.svV (h : Mem w0 Ln M S w) {v : Value} {m : Nat} {e : TypeId} {sz : Nat} {xs : List Value} [hm : HasV M v m e sz xs] : SV v m := h.seenV.form
theorem q_addN {t t' : TypeId} {x y : Operand} {a b : Nat} (hx : ev L x = some (.int .i64 ((a : Nat) : Int))) (hy : ev L y = some (.int .i64 ((b : Nat) : Int))) (h : a + b ≤ 9223372036854775807) : QOp P n R L (.binOp .add t x y t') (.int .i64 ((a + b : Nat) : Int)) :=
  q_bin hx hy (by simp only [binV, arithI]; rw [wk_i64 zz12 zz12]; rfl)
theorem q_mulN {t t' : TypeId} {x y : Operand} {a b : Nat} (hx : ev L x = some (.int .i64 ((a : Nat) : Int))) (hy : ev L y = some (.int .i64 ((b : Nat) : Int))) (h : a * b ≤ 9223372036854775807) : QOp P n R L (.binOp .mul t x y t') (.int .i64 ((a * b : Nat) : Int)) :=
  q_bin hx hy (by
    have h2 : ((a : Int) * (b : Int)) = ((a * b : Nat) : Int) := rfl
    simp only [binV, arithI]; rw [h2, wk_i64 zz12 zz12])
theorem q_subN {t t' : TypeId} {x y : Operand} {a b : Nat} (hx : ev L x = some (.int .i64 ((a : Nat) : Int))) (hy : ev L y = some (.int .i64 ((b : Nat) : Int))) (h : b ≤ a) (h2 : a ≤ 9223372036854775807) : QOp P n R L (.binOp .sub t x y t') (.int .i64 ((a - b : Nat) : Int)) :=
  q_bin hx hy (by simp only [binV, arithI]; rw [wk_i64 zz12 zz12]; congr 2; omega)
theorem q_quoN {t t' : TypeId} {x y : Operand} {a b : Nat} (hx : ev L x = some (.int .i64 ((a : Nat) : Int))) (hy : ev L y = some (.int .i64 ((b : Nat) : Int))) (h : 0 < b) (h2 : a ≤ 9223372036854775807) : QOp P n R L (.binOp .quo t x y t') (.int .i64 ((a / b : Nat) : Int)) := by
  have h3 : ((a : Int).tdiv (b : Int)) = ((a / b : Nat) : Int) := rfl
  have h4 : a / b ≤ a := Nat.div_le_self ..
  have := q_quo (P := P) (n := n) (R := R) (t := t) (t' := t') hx hy zz12
  rw [h3] at this
  generalize a / b = q at *
  rwa [wk_i64 zz12 zz12] at this
theorem q_remN {t t' : TypeId} {x y : Operand} {a b : Nat} (hx : ev L x = some (.int .i64 ((a : Nat) : Int))) (hy : ev L y = some (.int .i64 ((b : Nat) : Int))) (h : 0 < b) : QOp P n R L (.binOp .rem t x y t') (.int .i64 ((a % b : Nat) : Int)) :=
  q_rem hx hy zz12
theorem q_shrN {t t' : TypeId} {x y : Operand} {k' : IntKind} {a b : Nat} (hx : ev L x = some (.int .i64 ((a : Nat) : Int))) (hy : ev L y = some (.int k' ((b : Nat) : Int))) (h : b ≤ 63) : QOp P n R L (.binOp .shr t x y t') (.int .i64 ((a / 2 ^ b : Nat) : Int)) := by
  have := q_shr (P := P) (n := n) (R := R) (t := t) (t' := t') hx hy zz12
  have e : min ((b : Int).toNat) IntKind.i64.bits = b := by simp [IntKind.bits]; omega
  rw [e] at this
  have e2 : Int.fdiv (a : Int) (2 ^ b : Int) = ((a / 2 ^ b : Nat) : Int) := by
    have : (2 ^ b : Int) = ((2 ^ b : Nat) : Int) := by simp
    rw [this, Int.fdiv_eq_ediv_of_nonneg _ (Int.natCast_nonneg _)]; rfl
  rwa [e2] at this
theorem q_shlN {t t' : TypeId} {x y : Operand} {k' : IntKind} {a b : Nat} (hx : ev L x = some (.int .i64 ((a : Nat) : Int))) (hy : ev L y = some (.int k' ((b : Nat) : Int))) (h : b ≤ 63) (h2 : a * 2 ^ b ≤ 9223372036854775807) : QOp P n R L (.binOp .shl t x y t') (.int .i64 ((a * 2 ^ b : Nat) : Int)) := by
  have := q_shl (P := P) (n := n) (R := R) (t := t) (t' := t') hx hy zz12
  have e : min ((b : Int).toNat) IntKind.i64.bits = b := by simp [IntKind.bits]; omega
  rw [e] at this
  have e2 : (a : Int) * 2 ^ b = ((a * 2 ^ b : Nat) : Int) := by simp
  rw [e2, wk_i64 zz12 zz12] at this
  exact this
theorem q_andN {t t' : TypeId} {x y : Operand} {a b : Nat} (hx : ev L x = some (.int .i64 ((a : Nat) : Int))) (hy : ev L y = some (.int .i64 ((b : Nat) : Int))) (h : a ≤ 9223372036854775807) (h2 : b ≤ 9223372036854775807) : QOp P n R L (.binOp .and t x y t') (.int .i64 ((a &&& b : Nat) : Int)) :=
  q_bin hx hy (by
    simp only [binV, arithI]
    rw [and_nat _ a b (by simp [IntKind.bits]; omega) (by simp [IntKind.bits]; omega)]
    have : a &&& b ≤ a := Nat.and_le_left
    rw [wk_i64 zz12 zz12])
theorem q_orN {t t' : TypeId} {x y : Operand} {a b : Nat} (hx : ev L x = some (.int .i64 ((a : Nat) : Int))) (hy : ev L y = some (.int .i64 ((b : Nat) : Int))) (h : a ≤ 9223372036854775807) (h2 : b ≤ 9223372036854775807) : QOp P n R L (.binOp .or t x y t') (.int .i64 ((a ||| b : Nat) : Int)) :=
  q_bin hx hy (by
    simp only [binV, arithI]
    rw [or_nat _ a b (by simp [IntKind.bits]; omega) (by simp [IntKind.bits]; omega)]
    have : a ||| b < 2 ^ 63 := Nat.or_lt_two_pow zz12 zz12
    rw [wk_i64 zz12 zz12])
theorem q_xorN {t t' : TypeId} {x y : Operand} {a b : Nat} (hx : ev L x = some (.int .i64 ((a : Nat) : Int))) (hy : ev L y = some (.int .i64 ((b : Nat) : Int))) (h : a ≤ 9223372036854775807) (h2 : b ≤ 9223372036854775807) : QOp P n R L (.binOp .xor t x y t') (.int .i64 ((a ^^^ b : Nat) : Int)) :=
  q_bin hx hy (by
    simp only [binV, arithI]
    rw [xor_nat _ a b (by simp [IntKind.bits]; omega) (by simp [IntKind.bits]; omega)]
    have : a ^^^ b < 2 ^ 63 := Nat.xor_lt_two_pow zz12 zz12
    rw [wk_i64 zz12 zz12])
theorem of64_nat (c : Nat) (h : c < 18446744073709551616) : (of64 ((c : Nat) : Int)).toNat = c := by have := of64_toNat (c : Int); omega
theorem q64_intN {s t : TypeId} {x : Operand} {a : UInt64} {ds : TypeDesc} (hs' : P.underlying s = some ds) (hu : P.underlying t = some (.int .i64)) (hx : ev L x = some (.int .u64 a.toNat)) (h : a.toNat < 9223372036854775808) : QOp P n R L (.convert s t x) (.int .i64 ((a.toNat : Nat) : Int)) :=
  qop_eq (q64_int hs' hu hx) (by rw [wk_i64 zz12 zz12])
theorem q_convN {s t : TypeId} {x : Operand} {k : IntKind} {a : Nat} {ds : TypeDesc} (hs' : P.underlying s = some ds) (hu : P.underlying t = some (.int .i64)) (hx : ev L x = some (.int k ((a : Nat) : Int))) (h : a ≤ 9223372036854775807) : QOp P n R L (.convert s t x) (.int .i64 ((a : Nat) : Int)) :=
  qop_eq (q_conv hs' hu hx) (by rw [wk_i64 zz12 zz12])
theorem q_lenW {x : Operand} {t e : TypeId} {v : Value} {m : Nat} (hu : P.underlying t = some (.slice e)) (hx : ev L x = some v) (hv : SV v m) :
    QOp P n R L (.call { callee := .builtin .len, args := #[x], argTypes := #[t] }) (.int .i64 ((m : Nat) : Int)) := by
  obtain ⟨a, cap, rfl, _⟩ := hv
  exact q_len hu hx
theorem q_capW {x : Operand} {t e : TypeId} {a : Option Addr} {len cap : Nat} (hu : P.underlying t = some (.slice e)) (hx : ev L x = some (.slice a len cap)) :
    QOp P n R L (.call { callee := .builtin .cap, args := #[x], argTypes := #[t] }) (.int .i64 ((cap : Nat) : Int)) := by
  intro d ty pos af g ac w hs _
  simp only [execOp, resolve, invoke, builtin, List.map_toArray, List.map_cons, List.map_nil, hs.eval hx]
  simp [Builtin.cap_, run_underlying hu, goInt]
theorem q_idxW {t e : Nat} {x i : Operand} {v : Value} {m j : Nat} {k : IntKind} {z : Value} {sz by_ : Nat} (hu : P.underlying t = some (.slice e)) (he : TyI P e z sz by_)
    (hx : ev L x = some v) (hi : ev L i = some (.int k ((j : Nat) : Int))) (hv : SV v m) (h1 : j < m) :
    QOp P n R L (.indexAddr t x i) (.pointer (some ((sa v).add (j * sz)))) := by
  obtain ⟨a, cap, rfl, h2, h3, h4⟩ := hv
  cases a with
  | none => have := h4 rfl; omega
  | some ad => exact q_idxS hu he hx hi zz12 zz12 _ rfl
theorem q_idxW1 {t e : Nat} {x i : Operand} {v : Value} {m j : Nat} {k : IntKind} {z : Value} {by_ : Nat} (hu : P.underlying t = some (.slice e)) (he : TyI P e z 1 by_)
    (hx : ev L x = some v) (hi : ev L i = some (.int k ((j : Nat) : Int))) (hv : SV v m) (h1 : j < m) :
    QOp P n R L (.indexAddr t x i) (.pointer (some ((sa v).add j))) := by
  have := q_idxW (R := R) (n := n) hu he hx hi hv h1
  rwa [Nat.mul_one] at this
theorem q_idxA1 {t e len : Nat} {x i : Operand} {b : Nat} {k : IntKind} {j : Nat} {z : Value} {by_ : Nat} (hu : P.underlying t = some (.array len e)) (he : TyI P e z 1 by_)
    (hx : ev L x = some (.pointer (some ⟨b, 0, none⟩))) (hi : ev L i = some (.int k ((j : Nat) : Int))) (h1 : j < len) :
    QOp P n R L (.indexAddr t x i) (.pointer (some ⟨b, j, none⟩)) := q_idxA hu he hx hi zz12 zz12 _ zz40
theorem q_idxAN {t e len : Nat} {x i : Operand} {b off : Nat} {k : IntKind} {j : Nat} {z : Value} {sz by_ : Nat} (hu : P.underlying t = some (.array len e)) (he : TyI P e z sz by_)
    (hx : ev L x = some (.pointer (some ⟨b, off, none⟩))) (hi : ev L i = some (.int k ((j : Nat) : Int))) (h1 : j < len) :
    QOp P n R L (.indexAddr t x i) (.pointer (some ⟨b, off + j * sz, none⟩)) := q_idxA hu he hx hi zz12 zz12 _ zz40
theorem q_ldW {t : TypeId} {x : Operand} {v u : Value} {m sz j : Nat} {xs : List Value} {d : TypeDesc} (hu : P.underlying t = some d) (hd : isAggD d = false) (hx : ev L x = some (.pointer (some ((sa v).add j))))
    (hs : ∀ w, R w → Seen w.cell? v m sz xs) (hj : xs[j]? = some u) : QOp P n R L (.load t x) u := q_load1 hu hd hx fun w hw => (hs w hw).cellA hj
theorem q_ldWN {t : TypeId} {x : Operand} {v : Value} {m s' j : Nat} {xs : List Value} {d : TypeDesc} {z : Value} {sz by_ : Nat} (hu : P.underlying t = some d) (hd : isAggD d = true) (ht : TyI P t z sz by_) (hx : ev L x = some (.pointer (some ((sa v).add j))))
    (hs : ∀ w, R w → Seen w.cell? v m s' xs) (cs : List Value) (hc : (xs.drop j).take sz = cs) (hl : cs.length = sz) : QOp P n R L (.load t x) (.agg cs.toArray) :=
  q_loadN hu hd ht hx (fun w hw i u hi => by
    rw [addr_add_add]
    refine (hs w hw).cellA ?_
    rw [← hc, List.getElem?_take] at hi
    split at hi
    · rwa [List.getElem?_drop] at hi
    · cases hi) hl
theorem q_ldWF {t : TypeId} {x : Operand} {v u : Value} {m sz j k : Nat} {xs : List Value} {d : TypeDesc} (hu : P.underlying t = some d) (hd : isAggD d = false) (hx : ev L x = some (.pointer (some (((sa v).add j).add k))))
    (hs : ∀ w, R w → Seen w.cell? v m sz xs) (hj : xs[j + k]? = some u) : QOp P n R L (.load t x) u := q_load1 hu hd hx fun w hw => by rw [addr_add_add]; exact (hs w hw).cellA hj
theorem q_slWlh {t e : TypeId} {x l h : Operand} {v : Value} {m l' k' : Nat} {kl kh : IntKind} {z : Value} {sz by_ : Nat} (hu : P.underlying t = some (.slice e)) (he : TyI P e z sz by_)
    (hx : ev L x = some v) (hl : ev L l = some (.int kl ((l' : Nat) : Int))) (hh : ev L h = some (.int kh ((k' : Nat) : Int))) (hv : SV v m) (h1 : l' ≤ k') (h2 : k' ≤ m) :
    QOp P n R L (.slice t x (some l) (some h) none) (slv v l' k' sz) := by
  obtain ⟨a, cap, rfl, h3, _⟩ := hv
  exact q_sl_lh hu he hx hl hh zz12 zz12 zz12 _ _ zz12 zz12
theorem q_slWh {t e : TypeId} {x h : Operand} {v : Value} {m k' : Nat} {kh : IntKind} {z : Value} {sz by_ : Nat} (hu : P.underlying t = some (.slice e)) (he : TyI P e z sz by_)
    (hx : ev L x = some v) (hh : ev L h = some (.int kh ((k' : Nat) : Int))) (hv : SV v m) (h2 : k' ≤ m) :
    QOp P n R L (.slice t x none (some h) none) (slv v 0 k' sz) := by
  obtain ⟨a, cap, rfl, h3, _⟩ := hv
  exact q_sl_h hu he hx hh zz12 zz12 _ zz12
theorem q_slWl {t e : TypeId} {x l : Operand} {v : Value} {m l' : Nat} {kl : IntKind} {z : Value} {sz by_ : Nat} (hu : P.underlying t = some (.slice e)) (he : TyI P e z sz by_)
    (hx : ev L x = some v) (hl : ev L l = some (.int kl ((l' : Nat) : Int))) (hv : SV v m) (h1 : l' ≤ m) :
    QOp P n R L (.slice t x (some l) none none) (slv v l' m sz) := by
  obtain ⟨a, cap, rfl, h3, _⟩ := hv
  exact q_sl_l hu he hx hl zz12 zz12 _ zz12
def arv (b N : Nat) : Value := .slice (some ⟨b, 0, none⟩) N N
theorem arv_sv {b N : Nat} (h : N ≤ maxLen) : SV (arv b N) N := ⟨_, _, rfl, Nat.le_refl _, h, fun h => by cases h⟩
theorem q_arAll {t e : TypeId} {N : Nat} {x : Operand} {b : Nat} {z : Value} {sz by_ : Nat} (hu : P.underlying t = some (.array N e)) (he : TyI P e z sz by_) (h0 : Nat.beq N 0 = false)
    (hx : ev L x = some (.pointer (some ⟨b, 0, none⟩))) : QOp P n R L (.slice t x none none none) (arv b N) := by
  have hN : ¬ N = 0 := fun e => by subst e; simp at h0
  refine qop_eq (q_ar_all hu he hx) ?_
  unfold slicedAt arv
  rw [if_neg hN, Nat.zero_mul, addr_add_zero]; simp
theorem q_arLh {t e : TypeId} {N : Nat} {x l h : Operand} {b l' k' : Nat} {kl kh : IntKind} {z : Value} {sz by_ : Nat} (hu : P.underlying t = some (.array N e)) (he : TyI P e z sz by_)
    (hx : ev L x = some (.pointer (some ⟨b, 0, none⟩))) (hl : ev L l = some (.int kl ((l' : Nat) : Int))) (hh : ev L h = some (.int kh ((k' : Nat) : Int))) (h1 : l' ≤ k') (h2 : k' ≤ N) : QOp P n R L (.slice t x (some l) (some h) none) (slv (arv b N) l' k' sz) := by
  refine qop_eq (q_ar_lh hu he hx hl hh zz12 zz12 zz12 l' k' zz12 zz12) ?_
  unfold slicedAt slv arv sliced; simp [apply_ite]
theorem q_arH {t e : TypeId} {N : Nat} {x h : Operand} {b k' : Nat} {kh : IntKind} {z : Value} {sz by_ : Nat} (hu : P.underlying t = some (.array N e)) (he : TyI P e z sz by_)
    (hx : ev L x = some (.pointer (some ⟨b, 0, none⟩))) (hh : ev L h = some (.int kh ((k' : Nat) : Int))) (h2 : k' ≤ N) : QOp P n R L (.slice t x none (some h) none) (slv (arv b N) 0 k' sz) := by
  refine qop_eq (q_ar_h hu he hx hh zz12 zz12 k' zz12) ?_
  unfold slicedAt slv arv sliced; simp [apply_ite]
theorem q_arL {t e : TypeId} {N : Nat} {x l : Operand} {b l' : Nat} {kl : IntKind} {z : Value} {sz by_ : Nat} (hu : P.underlying t = some (.array N e)) (he : TyI P e z sz by_)
    (hx : ev L x = some (.pointer (some ⟨b, 0, none⟩))) (hl : ev L l = some (.int kl ((l' : Nat) : Int))) (h1 : l' ≤ N) : QOp P n R L (.slice t x (some l) none none) (slv (arv b N) l' N sz) := by
  refine qop_eq (q_ar_l hu he hx hl zz12 zz12 l' zz12) ?_
  unfold slicedAt slv arv sliced; simp [apply_ite]
theorem Mem.seenA (h : Mem w0 Ln M S w) {b N sz : Nat} {t : TypeId} {cs : List Value} [hm : HasB M b t cs] (hN : N ≤ maxLen) (hl : cs.length = N * sz) : Seen w.cell? (arv b N) N sz cs := seen_whole h.atB hN hl
theorem Repl.mem2 {α : Type} {l l' : List α} {x y : α} (h : Repl l x y l') : y ∈ l' := by
  induction h with
  | here => simp
  | there _ ih => exact List.mem_cons_of_mem _ ih
theorem sv_lit {b N : Nat} (h : N ≤ maxLen) : SV (.slice (some ⟨b, 0, none⟩) N N) N := ⟨_, _, rfl, Nat.le_refl _, h, fun h => by cases h⟩
def TOpP (P : Program) (Q : Exit → Act → World → Prop) (n : Cx) (R : World → Prop) (L : Slots) (op : Op) (ι : Type) (p : ι → Prop) (V : ι → Value) (R' : ι → World → Prop) : Prop :=
  ∀ (d : Option Tmp) (ty : TypeId) (pos : String) (af : Array Edge) (g : Option (Nat × Bool)) (a : Act) (w : World) (K : Act → World → Prop), Sl n a L → R w →
    (∀ x w', p x → R' x w' → K (a.put d (V x)) w') → (Oper.wp P ⟨d, op, ty, pos, af, g⟩ a w K Q)
theorem TOpP.t {op : Op} {ι : Type} {p : ι → Prop} {V : ι → Value} {R' : ι → World → Prop} (h : TOpP P Q n R L op ι p V R') : TOp P Q n R L op { x : ι // p x } (fun x => V x.1) (fun x => R' x.1) :=
  fun d ty pos af g a w K hs hr hk => h d ty pos af g a w K hs hr fun x w' hp h' => hk ⟨x, hp⟩ w' h'
theorem wpl_tp {d : Nat} {op : Op} {ty : TypeId} {pos : String} {af : Array Edge} {ι : Type} {p : ι → Prop} {V : ι → Value} {R' : ι → World → Prop} (hop : TOpP P Q n R L op ι p V R') (hd : Nat.blt d n.n = true) (next : ∀ x, p x → WPL P ops Q n (R' x) ((d, V x) :: L) rest) :
    WPL P ops Q n R L (⟨some d, op, ty, pos, af, none⟩ :: rest) := wpl_t hop.t hd fun x => next x.1 x.2
theorem wpd_tp {k fuel : Nat} {R0 : World → Prop} {listed : Array Bool} {d : Nat} {op : Op} {ty : TypeId} {pos : String} {af : Array Edge} {g : Option (Nat × Bool)} {ι : Type} {p : ι → Prop} {V : ι → Value} {R' : ι → World → Prop} (i : Nat) (hi : ops[i]? = some ⟨some d, op, ty, pos, af, g⟩) (hr : Region.ready .any ops listed = [i]) (hg : Wants ops L g)
    (hop : TOpP P Q n R L op ι p V R') (hd : Nat.blt d n.n = true) (hS : ∀ x w, R' x w → SK k R0 (listed.setIfInBounds i true) w)
    (next : ∀ x, p x → WPD P ops Q n k R0 (R' x) ((d, V x) :: L) fuel (listed.setIfInBounds i true)) : WPD P ops Q n k R0 R L (fuel + 1) listed := wpd_t i hi hr hg hop.t hd (fun x => hS x.1) fun x => next x.1 x.2
theorem TOp.rep {op : Op} {ι κ : Type} {p : κ → Prop} {V : ι → Value} {R' : ι → World → Prop} {V2 : κ → Value} {R2 : κ → World → Prop} (h : TOp P Q n R L op ι V R') (hm : ∀ x w, R' x w → ∃ y, p y ∧ V x = V2 y ∧ R2 y w) : TOpP P Q n R L op κ p V2 R2 := by
  intro d ty pos af g a w K hs hr hk
  refine h d ty pos af g a w K hs hr fun x w' h' => ?_
  obtain ⟨y, hp, e, h2⟩ := hm x w' h'
  rw [e]; exact hk y w' hp h2
def GivesP {ι : Type} (w : World) (p : ι → Prop) (V : ι → Value) (N : ι → List Ent) (T : ι → List Fact) (e : Ending) (w' : World) : Prop :=
  ∃ x, p x ∧ e = .returned (V x) ∧ Below w.heap.size w w' ∧ New w.heap.size (N x) (T x) w'
instance nop_givesP {fn : Func} {w : World} {ι : Type} {p : ι → Prop} {V : ι → Value} {N : ι → List Ent} {T : ι → List Fact} : NoP (bodyPost P fn (GivesP w p V N T)) := nop_post fun c w' ⟨x, _, h, _⟩ => by cases h
theorem t_callP {k : FuncId} {args : Array Operand} {at_ : Array TypeId} {vs : List Value} {ι : Type} {p : ι → Prop} {V : ι → Value} {N : ι → List Ent} {T : ι → List Fact}
    (hb : HasBody P k) (hv : evs L args.toList = some vs) (hc : ∀ w, Mem w0 Ln M S w → Calls P k vs.toArray w (GivesP w p V N T)) :
    TOpP P Q n (Mem w0 Ln M S) L (.call { callee := .value (.func k), args := args, argTypes := at_ }) ι p V (fun x => Mem w0 Ln (N x ++ M) (T x ++ S)) := by
  have h := t_call (Q := Q) (P := P) (L := L) (n := n) (w0 := w0) (Ln := Ln) (M := M) (S := S) (at_ := at_) (ι := { x : ι // p x }) (V := fun x => V x.1) (N := fun x => N x.1) (T := fun x => T x.1) hb hv fun w hm => (hc w hm).mono fun e w' h => by
    obtain ⟨x, hp, he, h1, h2⟩ := h
    exact ⟨⟨x, hp⟩, he, h1, h2⟩
  exact h.rep fun x w h => ⟨x.1, x.2, rfl, h⟩
theorem t_callP1 {k : FuncId} {args : Array Operand} {at_ : Array TypeId} {vs : List Value} {ι : Type} {p : ι → Prop} {V : ι → Value} {E : ι → Ent}
    (hb : HasBody P k) (hv : evs L args.toList = some vs) (hc : ∀ w, Mem w0 Ln M S w → Calls P k vs.toArray w (GivesP w p V (fun x => [E x]) fun _ => [])) :
    TOpP P Q n (Mem w0 Ln M S) L (.call { callee := .value (.func k), args := args, argTypes := at_ }) ι p V (fun x => Mem w0 Ln (E x :: M) S) := t_callP hb hv hc
theorem t_callP2 {k : FuncId} {args : Array Operand} {at_ : Array TypeId} {vs : List Value} {ι : Type} {p : ι → Prop} {V : ι → Value} {E F : ι → Ent}
    (hb : HasBody P k) (hv : evs L args.toList = some vs) (hc : ∀ w, Mem w0 Ln M S w → Calls P k vs.toArray w (GivesP w p V (fun x => [E x, F x]) fun _ => [])) :
    TOpP P Q n (Mem w0 Ln M S) L (.call { callee := .value (.func k), args := args, argTypes := at_ }) ι p V (fun x => Mem w0 Ln (E x :: F x :: M) S) := t_callP hb hv hc
theorem t_callP3 {k : FuncId} {args : Array Operand} {at_ : Array TypeId} {vs : List Value} {ι : Type} {p : ι → Prop} {V : ι → Value} {E F G : ι → Ent}
    (hb : HasBody P k) (hv : evs L args.toList = some vs) (hc : ∀ w, Mem w0 Ln M S w → Calls P k vs.toArray w (GivesP w p V (fun x => [E x, F x, G x]) fun _ => [])) :
    TOpP P Q n (Mem w0 Ln M S) L (.call { callee := .value (.func k), args := args, argTypes := at_ }) ι p V (fun x => Mem w0 Ln (E x :: F x :: G x :: M) S) := t_callP hb hv hc
theorem t_call1 {k : FuncId} {args : Array Operand} {at_ : Array TypeId} {vs : List Value} {m : Nat} {e : TypeId} {sz : Nat} {xs : List Value}
    (hb : HasBody P k) (hv : evs L args.toList = some vs) (hc : ∀ w, Mem w0 Ln M S w → Calls P k vs.toArray w (Gives w (fun v : Value => v) (fun v => [.row v m e sz xs]) fun _ => [])) :
    TOpP P Q n (Mem w0 Ln M S) L (.call { callee := .value (.func k), args := args, argTypes := at_ }) Value (fun v => SV v m) (fun v => v) (fun v => Mem w0 Ln (.row v m e sz xs :: M) S) :=
  (t_call hb hv hc).rep fun v w h => ⟨v, (show Mem w0 Ln (.row v m e sz xs :: M) S w from h).svV, rfl, h⟩
theorem TOp.re {op : Op} {ι κ : Type} {V : ι → Value} {R' : ι → World → Prop} {V2 : κ → Value} {R2 : κ → World → Prop} (h : TOp P Q n R L op ι V R') (hm : ∀ x w, R' x w → ∃ y, V x = V2 y ∧ R2 y w) : TOp P Q n R L op κ V2 R2 := by
  intro d ty pos af g a w K hs hr hk
  refine h d ty pos af g a w K hs hr fun x w' h' => ?_
  obtain ⟨y, e, h2⟩ := hm x w' h'
  rw [e]; exact hk y w' h2
theorem t_bsW {t e : TypeId} {len : Nat} {parts : Array (Nat × Operand)} {vs : List (Nat × Value)} (cs : List Value) {z : Value} {sz by_ : Nat} (hu : P.underlying t = some (.slice e)) (he : TyI P e z sz by_)
    (hv : evp L parts.toList = some vs) (hsmall : len * sz ≤ 2 ^ 24) (hpos : 0 < len * sz) (hz1 : z.cells.size = sz)
    (hf : Instr.fill (fun i => some (i * sz, sz)) ((List.replicate len z.cells.toList).flatten).toArray vs = some cs.toArray) (hl : cs.length = len * sz) :
    TOpP P Q n (Mem w0 Ln M S) L (.buildSlice t len parts) Value (fun v => SV v len) (fun v => v) (fun v => Mem w0 Ln (.row v len e sz cs :: M) S) :=
  (t_buildSlice cs hu he hv hsmall hpos hz1 hf hl).rep fun b w h => ⟨_, sv_lit (by
    have : len ≤ len * sz := by
      rcases Nat.eq_zero_or_pos sz with h | h
      · rw [h] at hpos; omega
      · exact Nat.le_mul_of_pos_right _ h
    simp only [maxLen]; omega), rfl, h⟩
theorem t_bsV {t e : TypeId} {len : Nat} {parts : Array (Nat × Operand)} (vs : List Value) {z : Value} {by_ : Nat} (hu : P.underlying t = some (.slice e)) (he : TyI P e z 1 by_) (hz1 : z.cells.size = 1)
    (hv : evp L parts.toList = some ((vs.zipIdx 0).map fun x => (x.2, x.1))) (hsmall : len ≤ 2 ^ 24) (hpos : 0 < len) (hl : vs.length = len) (h1 : ∀ v ∈ vs, v.oneCell' = true) :
    TOpP P Q n (Mem w0 Ln M S) L (.buildSlice t len parts) Value (fun v => SV v len) (fun v => v) (fun v => Mem w0 Ln (.row v len e 1 vs :: M) S) := by
  refine t_bsW vs hu he hv zz12 zz12 hz1 ?_ zz12
  have h2 := Great.fill_flat vs ((List.replicate len z.cells.toList).flatten).toArray (fun v hv => by have := h1 v hv; cases v <;> first | rfl | simp [Value.oneCell'] at this) (by simp [hz1, hl])
  simp only [Nat.mul_one]
  simpa using h2
theorem t_bs0W {t e : TypeId} {z : Value} {sz by_ : Nat} (hu : P.underlying t = some (.slice e)) (he : TyI P e z sz by_) :
    TOpP P Q n (Mem w0 Ln M S) L (.buildSlice t 0 #[]) Value (fun v => SV v 0) (fun v => v) (fun v => Mem w0 Ln (.row v 0 e sz [] :: M) S) :=
  (t_buildSlice0 hu he).rep fun b w h => ⟨_, sv_lit (Nat.zero_le _), rfl, h⟩
theorem t_mkW {t e : TypeId} {x y : Operand} {kl kc : IntKind} {l c : Nat} {z : Value} {sz by_ : Nat} (hu : P.underlying t = some (.slice e)) (he : TyI P e z sz by_) (hx : ev L x = some (.int kl ((l : Nat) : Int))) (hy : ev L y = some (.int kc ((c : Nat) : Int)))
    (hlc : l ≤ c) (hb : by_ * c ≤ 281474976710656) (h63 : c ≤ maxLen) (xs : List Value) (hz1 : z.cells.size = sz) (hxs : (List.replicate l z.cells.toList).flatten = xs) :
    TOpP P Q n (Mem w0 Ln M S) L (.makeSlice t x y) Value (fun v => SV v l) (fun v => v) (fun v => Mem w0 Ln (.row v l e sz xs :: M) S) :=
  (t_makeSlice hu he hx hy zz12 zz12 (by
    have : ((by_ * c : Nat) : Int) ≤ 281474976710656 := by omega
    simpa using this) (by simp only [maxLen] at h63; omega) l c zz12 zz12 xs hz1 hxs).rep fun b w h => ⟨_, ⟨_, _, rfl, hlc, h63, fun h => by cases h⟩, rfl, h⟩
theorem t_apW {t e : TypeId} {s x : Operand} {v u : Value} {m k : Nat} {xs news : List Value} {f : Ent → List Ent} {z : Value} {sz by_ : Nat} (hu : P.underlying t = some (.slice e)) (he : TyI P e z sz by_) (hz1 : z.cells.size = sz) (hsz : 0 < sz)
    (hs_ : ev L s = some v) (hx : ev L x = some u) [hr : ReplV M v m e sz xs f] (hsrc : ∀ w, Mem w0 Ln M S w → Seen w.cell? u k sz news) (h1 : ∀ u ∈ news, u.oneCell' = true)
    (h63 : m + k ≤ maxLen) (hby : (m + k) * by_ ≤ 140737488355328) (ys : List Value) (hys : xs ++ news = ys) :
    TOpP P Q n (Mem w0 Ln M S) L (.call { callee := .builtin .append, args := #[s, x], argTypes := #[t, t] }) Value (fun v' => SV v' (m + k)) (fun v' => v') (fun v' => Mem w0 Ln (f (.row v' (m + k) e sz ys)) S) := by
  subst hys
  exact (t_append hu he hz1 hsz hs_ hx hsrc h1 h63 hby).rep fun v' w h => ⟨v', (h.row_form (hr.out _).mem2).elim (fun h => by
      obtain ⟨rfl, h2, _⟩ := h
      rw [h2]; exact SV.nil) fun ⟨g, cap, h, h2, h3⟩ => ⟨_, _, h, h2, h3, fun h => by cases h⟩, rfl, h⟩
theorem t_ap0 {t e : TypeId} {s x : Operand} {v u : Value} {k : Nat} {news : List Value} {f : Ent → List Ent} {z : Value} {sz by_ : Nat} (hu : P.underlying t = some (.slice e)) (he : TyI P e z sz by_) (hz1 : z.cells.size = sz) (hsz : 0 < sz)
    (hs_ : ev L s = some v) (hx : ev L x = some u) [hr : ReplV M v 0 e sz [] f] (hsrc : ∀ w, Mem w0 Ln M S w → Seen w.cell? u k sz news) (h1 : ∀ u ∈ news, u.oneCell' = true)
    (h63 : k ≤ maxLen) (hby : k * by_ ≤ 140737488355328) :
    TOpP P Q n (Mem w0 Ln M S) L (.call { callee := .builtin .append, args := #[s, x], argTypes := #[t, t] }) Value (fun v' => SV v' k) (fun v' => v') (fun v' => Mem w0 Ln (f (.row v' k e sz news)) S) := by
  have h := t_apW (P := P) (Q := Q) (n := n) (L := L) (M := M) (w0 := w0) (Ln := Ln) (S := S) hu he hz1 hsz hs_ hx (hr := hr) hsrc h1 zz12 (by simpa using hby) news rfl
  rw [Nat.zero_add] at h
  exact h
theorem t_apN {t e : TypeId} {s x : Operand} {u : Value} {k : Nat} {news : List Value} {z : Value} {sz by_ : Nat} (hu : P.underlying t = some (.slice e)) (he : TyI P e z sz by_) (hz1 : z.cells.size = sz) (hsz : 0 < sz)
    (hs_ : ev L s = some (.slice none 0 0)) (hx : ev L x = some u) (hsrc : ∀ w, Mem w0 Ln M S w → Seen w.cell? u k sz news) (h1 : ∀ u ∈ news, u.oneCell' = true)
    (h63 : k ≤ maxLen) (hby : k * by_ ≤ 140737488355328) :
    TOpP P Q n (Mem w0 Ln M S) L (.call { callee := .builtin .append, args := #[s, x], argTypes := #[t, t] }) Value (fun v' => SV v' k) (fun v' => v') (fun v' => Mem w0 Ln (.row v' k e sz news :: M) S) := by
  intro d ty pos af g a w K hs hr hk
  have h2 := t_apW (P := P) (Q := Q) (n := n) (L := L) (M := .row (.slice none 0 0) 0 e sz [] :: M) (w0 := w0) (Ln := Ln) (S := S) hu he hz1 hsz hs_ hx (fun w h => hsrc w (h.sub (.drop (Sub.refl _)) (Sub.refl _))) h1 zz12 (by simpa using hby) news rfl
  refine h2 d ty pos af g a w K hs (hr.nilRow e sz) fun v w' hv h' => ?_
  rw [Nat.zero_add] at hv
  exact hk v w' hv (by simpa using h')
theorem Mem.setRowN {M' : List Ent} {v : Value} {m : Nat} {e : TypeId} {sz j : Nat} {xs vs ys : List Value} (h : Mem w0 Ln M S w) (hr : Repl M (.row v m e sz xs) (.row v m e sz ys) M') {k cap : Nat} {cs : Array Value} (hv : v = .slice (some ⟨k, 0, none⟩) m cap)
    (hk : w.heap[k]? = some (.cells cs e (0, 0))) (hj : j + vs.length ≤ xs.length) (hys : xs.take j ++ vs ++ xs.drop (j + vs.length) = ys) :
    Mem w0 Ln M' S (w.setRow k (cs.toList.take j ++ vs ++ cs.toList.drop (j + vs.length)).toArray) := by
  subst hv hys
  have hown : w.ownsRow 0 e sz _ m xs := h.own _ hr.mem
  obtain ⟨h1, h2, h3, h4⟩ := setRow_frame w k (cs.toList.take j ++ vs ++ cs.toList.drop (j + vs.length)).toArray
  refine h.turn hr h1 h2 h3 zz12 (fun k' _ hne => setRow_other w k k' _ (fun e => hne (by simp [Ent.num, Value.ownBlock, e]))) ?_ (fun k hk => .inl hk)
  rcases hown.2 with ⟨h5, _⟩ | ⟨g, cp, cur, h5, h6, h7, h8, h9, h10, h11⟩
  · cases h5
  · simp at h5
    obtain ⟨rfl, rfl⟩ := h5
    rw [hk] at h7
    simp at h7
    subst h7
    have hlen := hown.1
    have hle : xs.length ≤ cs.toList.length := by rw [← h11, List.length_take]; omega
    refine ⟨by simp [List.length_take, List.length_drop]; omega, .inr ⟨k, cap, _, rfl, h6, setRow_heap w k _ _ e _ hk, h8, h9, ?_, ?_⟩⟩
    · have : cs.toList.length = cap * sz := by simpa using h10
      simp [List.length_take, List.length_drop] at hle ⊢; omega
    · have hx : xs = cs.toList.take (m * sz) := h11.symm
      have hll : (cs.toList.take (m * sz)).length = m * sz := by rw [← hx]; exact hlen
      rw [hx]
      simp only [List.take_append, List.length_append, List.length_take, List.drop_take, List.take_take]
      have e1 : min j cs.toList.length = j := by omega
      have e2 : min j (m * sz) = j := by omega
      rw [e1, Nat.min_comm, e2, List.take_of_length_le (l := vs) zz12]
theorem t_stWN {t : TypeId} {x y : Operand} {v u : Value} {m j : Nat} {e : TypeId} {s' : Nat} {xs vs : List Value} {f : Ent → List Ent} {z : Value} {sz by_ : Nat} (ht : TyI P t z sz by_)
    (hx : ev L x = some (.pointer (some ((sa v).add j)))) (hy : ev L y = some u) [hr : ReplV M v m e s' xs f] (hu : u.cells.toList = vs) (hl : vs.length = sz) (h1 : ∀ u ∈ vs, u.oneCell' = true) (hin : j + vs.length ≤ xs.length) (hpos : 0 < xs.length) (ys : List Value)
    (hys : xs.take j ++ vs ++ xs.drop (j + vs.length) = ys) :
    TOp P Q n (Mem w0 Ln M S) L (.store t x y) Unit (fun _ => undef) (fun _ => Mem w0 Ln (f (.row v m e s' ys)) S) := by
  intro d ty pos af g a w K hs hm hk
  subst hu
  have hown : w.ownsRow 0 e s' v m xs := hm.own _ (hr.out (.blk 0 0 [])).mem
  rcases hown.2 with ⟨rfl, rfl⟩ | ⟨g', cp, cur, rfl, h6, h7, h8, h9, h10, h11⟩
  · have := hown.1; omega
  · have hle : xs.length ≤ cur.toList.length := by rw [← h11, List.length_take]; omega
    have hst := run_storeCells_at (P := P) g' j e u.cells.toList 0 cur w h7 (by simp at hle ⊢; simp at hin; omega) h1
    simp only [Nat.add_zero] at hst
    have hsa : (sa (.slice (some ⟨g', 0, none⟩) m cp)).add j = ⟨g', j, none⟩ := by show (⟨g', 0, none⟩ : Addr).add j = _; rw [add_lit, Nat.zero_add]
    rw [hsa] at hx
    have hrun : (execOp a.eval ⟨d, .store t x y, ty, pos, af, g⟩).run P w = .ok .skip (w.setRow g' (cur.toList.take j ++ u.cells.toList ++ cur.toList.drop (j + u.cells.toList.length)).toArray) := by
      simp only [execOp, hs.eval hx, hs.eval hy]
      have hl' : u.cells.size = sz := by simpa using hl
      simp only [Instr.storeAt, Instr.sureAddr, storeVar]
      simp [run_sz ht, hl', hst]
    unfold Oper.wp
    rw [hrun]
    exact hk () _ (hm.setRowN (hr.out _) rfl h7 hin hys)
theorem t_stW {t : TypeId} {x y : Operand} {v u : Value} {m j : Nat} {e : TypeId} {s' : Nat} {xs : List Value} {f : Ent → List Ent} {z : Value} {by_ : Nat} (ht : TyI P t z 1 by_)
    (hx : ev L x = some (.pointer (some ((sa v).add j)))) (hy : ev L y = some u) [hr : ReplV M v m e s' xs f] (h1 : u.oneCell' = true) (hin : j < xs.length) (ys : List Value) (hys : xs.set j u = ys) :
    TOp P Q n (Mem w0 Ln M S) L (.store t x y) Unit (fun _ => undef) (fun _ => Mem w0 Ln (f (.row v m e s' ys)) S) := by
  have hv : u.cells.toList = [u] := by cases u <;> first | rfl | simp [Value.oneCell'] at h1
  refine t_stWN ht hx hy hv rfl (by simpa using h1) zz50 zz12 ys ?_
  rw [← hys, List.set_eq_take_append_cons_drop, if_pos hin]
  simp
theorem t_stWF {t : TypeId} {x y : Operand} {v u : Value} {m j k : Nat} {e : TypeId} {s' : Nat} {xs : List Value} {f : Ent → List Ent} {z : Value} {by_ : Nat} (ht : TyI P t z 1 by_)
    (hx : ev L x = some (.pointer (some (((sa v).add j).add k)))) (hy : ev L y = some u) [hr : ReplV M v m e s' xs f] (h1 : u.oneCell' = true) (hin : j + k < xs.length) (ys : List Value) (hys : xs.set (j + k) u = ys) :
    TOp P Q n (Mem w0 Ln M S) L (.store t x y) Unit (fun _ => undef) (fun _ => Mem w0 Ln (f (.row v m e s' ys)) S) := by
  rw [addr_add_add] at hx
  exact t_stW ht hx hy h1 hin ys hys
theorem q8_shlC {t t' : TypeId} {x y : Operand} {a : UInt8} {c : Nat} (hx : ev L x = some (.int .u8 a.toNat)) (hy : ev L y = some (.int .u64 ((of64 ((c : Nat) : Int)).toNat))) (hc : c < 18446744073709551616) : QOp P n R L (.binOp .shl t x y t') (.int .u8 (sl8 a c).toNat) :=
  q8_shl hx hy zz12 c (by rw [of64_nat c hc]; simp)
theorem q8_shrC {t t' : TypeId} {x y : Operand} {a : UInt8} {c : Nat} (hx : ev L x = some (.int .u8 a.toNat)) (hy : ev L y = some (.int .u64 ((of64 ((c : Nat) : Int)).toNat))) (hc : c < 18446744073709551616) : QOp P n R L (.binOp .shr t x y t') (.int .u8 (sr8 a c).toNat) :=
  q8_shr hx hy zz12 c (by rw [of64_nat c hc]; simp)
theorem mk8 (l : Nat) : (List.replicate l (Value.int .u8 0).cells.toList).flatten = v8s (List.replicate l 0) := by
  induction l with
  | zero => rfl
  | succ l ih => rw [List.replicate_succ, List.flatten_cons, ih]; rfl
theorem q16_shlC {t t' : TypeId} {x y : Operand} {a : UInt16} {c : Nat} (hx : ev L x = some (.int .u16 a.toNat)) (hy : ev L y = some (.int .u64 ((of64 ((c : Nat) : Int)).toNat))) (hc : c < 18446744073709551616) : QOp P n R L (.binOp .shl t x y t') (.int .u16 (sl16 a c).toNat) :=
  q16_shl hx hy zz12 c (by rw [of64_nat c hc]; simp)
theorem q16_shrC {t t' : TypeId} {x y : Operand} {a : UInt16} {c : Nat} (hx : ev L x = some (.int .u16 a.toNat)) (hy : ev L y = some (.int .u64 ((of64 ((c : Nat) : Int)).toNat))) (hc : c < 18446744073709551616) : QOp P n R L (.binOp .shr t x y t') (.int .u16 (sr16 a c).toNat) :=
  q16_shr hx hy zz12 c (by rw [of64_nat c hc]; simp)
theorem mk16 (l : Nat) : (List.replicate l (Value.int .u16 0).cells.toList).flatten = v16s (List.replicate l 0) := by
  induction l with
  | zero => rfl
  | succ l ih => rw [List.replicate_succ, List.flatten_cons, ih]; rfl
theorem q32_shlC {t t' : TypeId} {x y : Operand} {a : UInt32} {c : Nat} (hx : ev L x = some (.int .u32 a.toNat)) (hy : ev L y = some (.int .u64 ((of64 ((c : Nat) : Int)).toNat))) (hc : c < 18446744073709551616) : QOp P n R L (.binOp .shl t x y t') (.int .u32 (sl32 a c).toNat) :=
  q32_shl hx hy zz12 c (by rw [of64_nat c hc]; simp)
theorem q32_shrC {t t' : TypeId} {x y : Operand} {a : UInt32} {c : Nat} (hx : ev L x = some (.int .u32 a.toNat)) (hy : ev L y = some (.int .u64 ((of64 ((c : Nat) : Int)).toNat))) (hc : c < 18446744073709551616) : QOp P n R L (.binOp .shr t x y t') (.int .u32 (sr32 a c).toNat) :=
  q32_shr hx hy zz12 c (by rw [of64_nat c hc]; simp)
theorem mk32 (l : Nat) : (List.replicate l (Value.int .u32 0).cells.toList).flatten = v32s (List.replicate l 0) := by
  induction l with
  | zero => rfl
  | succ l ih => rw [List.replicate_succ, List.flatten_cons, ih]; rfl
theorem q64_shlC {t t' : TypeId} {x y : Operand} {a : UInt64} {c : Nat} (hx : ev L x = some (.int .u64 a.toNat)) (hy : ev L y = some (.int .u64 ((of64 ((c : Nat) : Int)).toNat))) (hc : c < 18446744073709551616) : QOp P n R L (.binOp .shl t x y t') (.int .u64 (sl64 a c).toNat) :=
  q64_shl hx hy zz12 c (by rw [of64_nat c hc]; simp)
theorem q64_shrC {t t' : TypeId} {x y : Operand} {a : UInt64} {c : Nat} (hx : ev L x = some (.int .u64 a.toNat)) (hy : ev L y = some (.int .u64 ((of64 ((c : Nat) : Int)).toNat))) (hc : c < 18446744073709551616) : QOp P n R L (.binOp .shr t x y t') (.int .u64 (sr64 a c).toNat) :=
  q64_shr hx hy zz12 c (by rw [of64_nat c hc]; simp)
theorem mk64 (l : Nat) : (List.replicate l (Value.int .u64 0).cells.toList).flatten = v64s (List.replicate l 0) := by
  induction l with
  | zero => rfl
  | succ l ih => rw [List.replicate_succ, List.flatten_cons, ih]; rfl
theorem mki (l : Nat) : (List.replicate l (Value.int .i64 0).cells.toList).flatten = vis (List.replicate l 0) := by
  induction l with
  | zero => rfl
  | succ l ih => rw [List.replicate_succ, List.flatten_cons, ih]; rfl
theorem wpl_bool (t : Nat) {c : Bool} (h : get L t = some (.bool c)) (ht : c = true → WPL P ops Q n R ((t, .bool true) :: L) rest) (hf : c = false → WPL P ops Q n R ((t, .bool false) :: L) rest) : WPL P ops Q n R L rest := by
  have key : ∀ b, c = b → WPL P ops Q n R ((t, .bool b) :: L) rest → WPL P ops Q n R L rest := fun b e h2 a w hs hr => h2 a w (hs.weaken fun t' v hv => by
    rw [get_cons] at hv
    by_cases ee : t = t'
    · subst ee; simp only [if_true] at hv; cases hv; rw [h, e]
    · rw [if_neg ee] at hv; exact hv) hr
  cases c with
  | true => exact key true rfl (ht rfl)
  | false => exact key false rfl (hf rfl)
theorem wpd_bool {k fuel : Nat} {R0 : World → Prop} {listed : Array Bool} (t : Nat) {c : Bool} (h : get L t = some (.bool c)) (ht : c = true → WPD P ops Q n k R0 R ((t, .bool true) :: L) fuel listed) (hf : c = false → WPD P ops Q n k R0 R ((t, .bool false) :: L) fuel listed) :
    WPD P ops Q n k R0 R L fuel listed := by
  have key : ∀ b, c = b → WPD P ops Q n k R0 R ((t, .bool b) :: L) fuel listed → WPD P ops Q n k R0 R L fuel listed := fun b e h2 a w hs hr => h2 a w (hs.weaken fun t' v hv => by
    rw [get_cons] at hv
    by_cases ee : t = t'
    · subst ee; simp only [if_true] at hv; cases hv; rw [h, e]
    · rw [if_neg ee] at hv; exact hv) hr
  cases c with
  | true => exact key true rfl (ht rfl)
  | false => exact key false rfl (hf rfl)
theorem wpl_bool2 (t t' : Nat) {c : Bool} (h : get L t = some (.bool c)) (h' : get L t' = some (.bool c)) (ht : c = true → WPL P ops Q n R ((t, .bool true) :: (t', .bool true) :: L) rest) (hf : c = false → WPL P ops Q n R ((t, .bool false) :: (t', .bool false) :: L) rest) : WPL P ops Q n R L rest := by
  refine wpl_bool t' h' (fun e => ?_) (fun e => ?_)
  · subst e
    by_cases ee : t' = t
    · subst ee; exact wpl_bool t' (by rw [get_cons, if_pos rfl]) (fun _ => ht rfl) (fun e => by cases e)
    · exact wpl_bool t (by rw [get_cons, if_neg ee, h]) (fun _ => ht rfl) (fun e => by cases e)
  · subst e
    by_cases ee : t' = t
    · subst ee; exact wpl_bool t' (by rw [get_cons, if_pos rfl]) (fun e => by cases e) (fun _ => hf rfl)
    · exact wpl_bool t (by rw [get_cons, if_neg ee, h]) (fun e => by cases e) (fun _ => hf rfl)
theorem wpd_bool2 {k fuel : Nat} {R0 : World → Prop} {listed : Array Bool} (t t' : Nat) {c : Bool} (h : get L t = some (.bool c)) (h' : get L t' = some (.bool c)) (ht : c = true → WPD P ops Q n k R0 R ((t, .bool true) :: (t', .bool true) :: L) fuel listed) (hf : c = false → WPD P ops Q n k R0 R ((t, .bool false) :: (t', .bool false) :: L) fuel listed) : WPD P ops Q n k R0 R L fuel listed := by
  refine wpd_bool t' h' (fun e => ?_) (fun e => ?_)
  · subst e
    by_cases ee : t' = t
    · subst ee; exact wpd_bool t' (by rw [get_cons, if_pos rfl]) (fun _ => ht rfl) (fun e => by cases e)
    · exact wpd_bool t (by rw [get_cons, if_neg ee, h]) (fun _ => ht rfl) (fun e => by cases e)
  · subst e
    by_cases ee : t' = t
    · subst ee; exact wpd_bool t' (by rw [get_cons, if_pos rfl]) (fun e => by cases e) (fun _ => hf rfl)
    · exact wpd_bool t (by rw [get_cons, if_neg ee, h]) (fun e => by cases e) (fun _ => hf rfl)
theorem wpc_loopc {c : Code} {ι : Type} (Lc : Slots) (Li : ι → Slots → Slots) (Ri : ι → World → Prop) (μ : ι → Nat) (x0 : ι) (h0 : subs L (Li x0 Lc)) (hR : ∀ w, R w → Ri x0 w)
    (round : ∀ x, WPC P (Exit.then (Again n (fun x => Li x Lc) Ri μ x) Q) n (Ri x) (Li x Lc) c) : WPC P Q n R L (.loop c) := wpc_loop (fun x => Li x Lc) Ri μ x0 h0 hR round
theorem wpc_cutc {x y : Code} (ι : Type) (Lc : Slots) (L' : ι → Slots → Slots) (R' : ι → World → Prop) (h1 : WPC P (Exit.then (Mid n (fun i => L' i Lc) R') Q) n R L x) (h2 : ∀ i, WPC P Q n (R' i) (L' i Lc) y) : WPC P Q n R L (.seq x y) := wpc_cut ι (fun i => L' i Lc) R' h1 h2
end
end Go.PL
namespace Go.PL
open Go Go.RowKit
section
variable {H : Type} {enc : TypeId × Value → H} {P : Program} {w : World} {base : Nat} {sp : Nat → Bool} {held : Bool}
def dels : DataW H → List (DataW H)
  | .slice es _ => es
  | _ => []
def Opens (enc : TypeId × Value → H) (P : Program) (w : World) (base : Nat) (sp : Nat → Bool) (held : Bool) (t : TypeId) {α : Type} (R : α → List Value → DataW H → Prop) : Prop :=
  ∀ n c y, DataW.trod enc P w base sp held n t c = some y → ∃ a, R a c y.1
theorem cells_list {a : Addr} {k : Nat} {cs : List Value} (h : w.cells? base a k = some cs) : cs.length = k ∧ CellsAt w.cell? a cs := by
  obtain ⟨h1, h2, h3⟩ := World.cells?_some h
  refine ⟨h2, fun j v hj => ?_⟩
  have hlt := (List.getElem?_eq_some_iff.1 hj).1
  rw [h3 j zz12]; exact hj
theorem flat_get {css : List (List Value)} {sz : Nat} (hs : ∀ c ∈ css, c.length = sz) {j : Nat} {v : Value} (hj : css.flatten[j]? = some v) : ∃ i k c, j = i * sz + k ∧ k < sz ∧ css[i]? = some c ∧ c[k]? = some v := by
  induction css generalizing j with
  | nil => simp at hj
  | cons c r ih =>
    have hc := hs c (List.mem_cons_self ..)
    rw [List.flatten_cons] at hj
    by_cases h : j < c.length
    · rw [List.getElem?_append_left h] at hj
      exact ⟨0, j, c, zz12, zz12, rfl, hj⟩
    · rw [List.getElem?_append_right zz12] at hj
      obtain ⟨i, k, c', h1, h2, h3, h4⟩ := ih (fun c hc => hs c (List.mem_cons_of_mem _ hc)) hj
      refine ⟨i + 1, k, c', ?_, h2, by simpa using h3, h4⟩
      rw [Nat.succ_mul]; omega
theorem flat_length {css : List (List Value)} {sz : Nat} (hs : ∀ c ∈ css, c.length = sz) : css.flatten.length = css.length * sz := by
  induction css with
  | nil => simp
  | cons c r ih =>
    rw [List.flatten_cons, List.length_append, ih fun c hc => hs c (List.mem_cons_of_mem _ hc), hs c (List.mem_cons_self ..), List.length_cons, Nat.succ_mul]; omega
theorem opens_slice {t e : TypeId} {sz : Nat} {α : Type} {R : α → List Value → DataW H → Prop} (ht : P.underlying t = some (.slice e)) (hc : P.cellsOf e = sz) (hR : Opens enc P w base sp held e R) :
    Opens enc P w base sp held t (fun (p : Value × List (α × List Value × DataW H)) c d => c = [p.1] ∧ Seen w.cell? p.1 p.2.length sz (p.2.map (·.2.1)).flatten ∧ (∀ q ∈ p.2, R q.1 q.2.1 q.2.2 ∧ q.2.1.length = sz) ∧ dels d = p.2.map (·.2.2)) := by
  intro fuel cs x h
  rcases DataW.trod_slice ht h with ⟨rfl, rfl⟩ | ⟨a, len, cap, elems, rest, n, _, rfl, rfl, _, h2, h3, hl, hel, _⟩
  · exact ⟨(.slice none 0 0, []), rfl, seen_nil _ _, (fun q hq => by simp at hq), rfl⟩
  · rw [hc] at hel
    have key : ∀ k, k ≤ len → ∃ qs : List (α × List Value × DataW H), qs.length = k ∧ (∀ i q, qs[i]? = some q → w.cells? base (a.add (i * sz)) sz = some q.2.1 ∧ R q.1 q.2.1 q.2.2) ∧ qs.map (·.2.2) = (elems.map (·.1)).take k := by
      intro k
      induction k with
      | zero => intro _; exact ⟨[], rfl, fun i q hq => by simp at hq, zz40⟩
      | succ k ih =>
        intro hk
        obtain ⟨qs, q1, q2, q3⟩ := ih zz12
        have he := hel k zz12
        have hk2 : k < elems.length := by omega
        rw [List.getElem?_eq_getElem hk2, Option.bind_eq_some_iff] at he
        obtain ⟨c, hcc, hy⟩ := he
        obtain ⟨av, ha⟩ := hR _ _ _ hy
        refine ⟨qs ++ [(av, c, elems[k].1)], by simp [q1], fun i q hq => ?_, ?_⟩
        · by_cases hi : i < k
          · rw [List.getElem?_append_left zz12] at hq; exact q2 i q hq
          · have : i = k := by
              have := (List.getElem?_eq_some_iff.1 hq).1
              simp [q1] at this; omega
            subst this
            rw [List.getElem?_append_right zz12, q1, Nat.sub_self] at hq
            simp at hq; subst hq
            exact ⟨hcc, ha⟩
        · rw [List.map_append, q3, List.take_add_one]
          simp [hk2]
    obtain ⟨qs, q1, q2, q3⟩ := key len (Nat.le_refl _)
    have hcell : ∀ q ∈ qs, ∃ i, qs[i]? = some q ∧ w.cells? base (a.add (i * sz)) sz = some q.2.1 ∧ R q.1 q.2.1 q.2.2 := fun q hq => by
      obtain ⟨i, hi⟩ := List.getElem?_of_mem hq
      exact ⟨i, hi, q2 i q hi⟩
    have hlen : ∀ c ∈ qs.map (·.2.1), c.length = sz := fun c hc' => by
      obtain ⟨q, hq, rfl⟩ := List.mem_map.1 hc'
      obtain ⟨i, _, h4, _⟩ := hcell q hq
      exact (cells_list h4).1
    refine ⟨(.slice (some a) len cap, qs), rfl, ⟨?_, some a, cap, by simp [q1], by simp [q1]; exact h2, h3, .inr ⟨a, rfl, fun j v hj => ?_⟩⟩, fun q hq => ?_, ?_⟩
    · rw [flat_length hlen]; simp
    · obtain ⟨i, k, c, e1, e2, e3, e4⟩ := flat_get hlen hj
      rw [List.getElem?_map] at e3
      cases hq : qs[i]? with
      | none => simp [hq] at e3
      | some q =>
        simp [hq] at e3
        subst e3
        have := (cells_list (q2 i q hq).1).2 k v e4
        rw [addr_add_add] at this
        rw [e1]; exact this
    · obtain ⟨i, _, h4, h5⟩ := hcell q hq
      exact ⟨h5, (cells_list h4).1⟩
    · simp only [dels]
      rw [q3, List.take_of_length_le zz50]
theorem wf_u8 {n : Int} (h : (Lit.int .u8 n).wf = true) : ((UInt8.ofNat n.toNat).toNat : Int) = n := by
  simp [Lit.wf, IntKind.min, IntKind.max, IntKind.signed, IntKind.bits] at h
  simp; omega
theorem wf_u16 {n : Int} (h : (Lit.int .u16 n).wf = true) : ((UInt16.ofNat n.toNat).toNat : Int) = n := by
  simp [Lit.wf, IntKind.min, IntKind.max, IntKind.signed, IntKind.bits] at h
  simp; omega
theorem wf_u32 {n : Int} (h : (Lit.int .u32 n).wf = true) : ((UInt32.ofNat n.toNat).toNat : Int) = n := by
  simp [Lit.wf, IntKind.min, IntKind.max, IntKind.signed, IntKind.bits] at h
  simp; omega
theorem wf_u64 {n : Int} (h : (Lit.int .u64 n).wf = true) : ((UInt64.ofNat n.toNat).toNat : Int) = n := by
  simp [Lit.wf, IntKind.min, IntKind.max, IntKind.signed, IntKind.bits] at h
  simp; omega
theorem wf_i64 {n : Int} (h : (Lit.int .i64 n).wf = true) : -9223372036854775808 ≤ n ∧ n ≤ 9223372036854775807 := by
  simp [Lit.wf, IntKind.min, IntKind.max, IntKind.signed, IntKind.bits] at h
  omega
theorem opens_u8 {t : TypeId} (ht : P.underlying t = some (.int .u8)) : Opens enc P w base sp held t (fun (a : UInt8) c _ => c = [.int .u8 (a.toNat : Int)]) := fun n c y h => by
  obtain ⟨m, rfl, rfl, hw⟩ := DataW.trod_int ht h
  exact ⟨UInt8.ofNat m.toNat, by dsimp only; rw [wf_u8 hw]⟩
theorem opens_u16 {t : TypeId} (ht : P.underlying t = some (.int .u16)) : Opens enc P w base sp held t (fun (a : UInt16) c _ => c = [.int .u16 (a.toNat : Int)]) := fun n c y h => by
  obtain ⟨m, rfl, rfl, hw⟩ := DataW.trod_int ht h
  exact ⟨UInt16.ofNat m.toNat, by dsimp only; rw [wf_u16 hw]⟩
theorem opens_u32 {t : TypeId} (ht : P.underlying t = some (.int .u32)) : Opens enc P w base sp held t (fun (a : UInt32) c _ => c = [.int .u32 (a.toNat : Int)]) := fun n c y h => by
  obtain ⟨m, rfl, rfl, hw⟩ := DataW.trod_int ht h
  exact ⟨UInt32.ofNat m.toNat, by dsimp only; rw [wf_u32 hw]⟩
theorem opens_u64 {t : TypeId} (ht : P.underlying t = some (.int .u64)) : Opens enc P w base sp held t (fun (a : UInt64) c _ => c = [.int .u64 (a.toNat : Int)]) := fun n c y h => by
  obtain ⟨m, rfl, rfl, hw⟩ := DataW.trod_int ht h
  exact ⟨UInt64.ofNat m.toNat, by dsimp only; rw [wf_u64 hw]⟩
theorem opens_i64 {t : TypeId} (ht : P.underlying t = some (.int .i64)) : Opens enc P w base sp held t (fun (a : Int) c _ => c = [.int .i64 a] ∧ -9223372036854775808 ≤ a ∧ a ≤ 9223372036854775807) := fun n c y h => by
  obtain ⟨m, rfl, rfl, hw⟩ := DataW.trod_int ht h
  exact ⟨_, rfl, wf_i64 hw⟩
theorem opens_bool {t : TypeId} (ht : P.underlying t = some .bool) : Opens enc P w base sp held t (fun (a : Bool) c _ => c = [.bool a]) := fun n c y h => by
  obtain ⟨m, rfl, rfl⟩ := DataW.trod_bool ht h
  exact ⟨_, rfl⟩
def str (xs : List UInt8) : Value := .string ⟨xs.toArray⟩
theorem opens_str {t : TypeId} (ht : P.underlying t = some .string) : Opens enc P w base sp held t (fun (a : List UInt8) c d => c = [str a] ∧ a.length ≤ maxLen ∧ d = .lit (.string a)) := fun n c y h => by
  obtain ⟨s, rfl, rfl, hw⟩ := DataW.trod_string ht h
  exact ⟨s.data.toList, rfl, by simpa using hw, rfl⟩
theorem opens_arr {t e : TypeId} {α : Type} {N : Nat} {f : α → Value} (ht : P.underlying t = some (.array N e)) (hc : P.cellsOf e = 1) (hct : P.cellsOf t = N) (hR : Opens enc P w base sp held e (fun (a : α) c _ => c = [f a])) :
    Opens enc P w base sp held t (fun (as : List α) c _ => c = as.map f ∧ as.length = N) := by
  intro n cs y h
  obtain ⟨xs, m, _, _, hl, hx, hel⟩ := DataW.trod_array ht h
  rw [hc] at hel
  rw [hct] at hl
  have key : ∀ k, k ≤ N → ∃ as : List α, as.length = k ∧ cs.take k = as.map f := by
    intro k
    induction k with
    | zero => intro _; exact ⟨[], rfl, zz40⟩
    | succ k ih =>
      intro hk
      obtain ⟨as, h1, h2⟩ := ih zz12
      have he := hel k zz12
      rw [List.getElem?_eq_getElem zz12] at he
      obtain ⟨a, ha⟩ := hR _ _ _ he
      refine ⟨as ++ [a], by simp [h1], ?_⟩
      rw [List.map_append, ← h2, List.take_add_one]
      congr 1
      rw [Nat.mul_one, List.drop_eq_getElem_cons zz12, List.take_succ_cons, List.take_zero] at ha
      simp only [List.cons.injEq, and_true] at ha
      rw [List.getElem?_eq_getElem zz12, ha]; rfl
  obtain ⟨as, h1, h2⟩ := key N (Nat.le_refl _)
  rw [List.take_of_length_le zz12] at h2
  exact ⟨as, h2, h1⟩
theorem opens_nums {t e : TypeId} {α : Type} {f : α → Value} (ht : P.underlying t = some (.slice e)) (hc : P.cellsOf e = 1) (hR : Opens enc P w base sp held e (fun (a : α) c _ => c = [f a])) :
    Opens enc P w base sp held t (fun (p : Value × List α) c d => c = [p.1] ∧ Seen w.cell? p.1 p.2.length 1 (p.2.map f) ∧ (dels d).length = p.2.length) := by
  intro n cs y h
  obtain ⟨⟨v, qs⟩, h1, h2, h3, h4⟩ := opens_slice ht hc hR n cs y h
  refine ⟨(v, qs.map (·.1)), h1, ?_, by rw [h4]; simp⟩
  have : (qs.map (·.2.1)).flatten = (qs.map (·.1)).map f := by
    clear h1 h2 h4
    induction qs with
    | nil => rfl
    | cons q r ih =>
      rw [List.map_cons, List.flatten_cons, ih fun q hq => h3 q (List.mem_cons_of_mem _ hq), (h3 q (List.mem_cons_self ..)).1]; rfl
  simp only [List.length_map]
  rw [← this]; exact h2
theorem opens_u8s {t e : TypeId} (ht : P.underlying t = some (.slice e)) (he : P.underlying e = some (.int .u8)) (hc : P.cellsOf e = 1) :
    Opens enc P w base sp held t (fun (p : Value × List UInt8) c d => c = [p.1] ∧ Seen w.cell? p.1 p.2.length 1 (v8s p.2) ∧ (dels d).length = p.2.length) := opens_nums ht hc (opens_u8 he)
theorem opens_u8ss {t s e : TypeId} (ht : P.underlying t = some (.slice s)) (hs : P.underlying s = some (.slice e)) (he : P.underlying e = some (.int .u8)) (hc : P.cellsOf e = 1) (hcs : P.cellsOf s = 1) :
    Opens enc P w base sp held t (fun (p : Value × List (Value × List UInt8)) c d => c = [p.1] ∧ Seen w.cell? p.1 p.2.length 1 (p.2.map Prod.fst) ∧ (∀ q ∈ p.2, Seen w.cell? q.1 q.2.length 1 (v8s q.2)) ∧ (dels d).map (fun e => (dels e).length) = p.2.map (fun q => q.2.length)) := by
  intro n cs y h
  obtain ⟨⟨v, qs⟩, h1, h2, h3, h4⟩ := opens_slice ht hcs (opens_u8s hs he hc) n cs y h
  refine ⟨(v, qs.map (·.1)), h1, ?_, ?_, ?_⟩
  · have : (qs.map (·.2.1)).flatten = (qs.map (·.1)).map Prod.fst := by
      clear h1 h2 h4
      induction qs with
      | nil => rfl
      | cons q r ih =>
        rw [List.map_cons, List.flatten_cons, ih fun q hq => h3 q (List.mem_cons_of_mem _ hq), (h3 q (List.mem_cons_self ..)).1.1]; rfl
    simp only [List.length_map]
    rw [← this]; exact h2
  · intro q hq
    obtain ⟨q', hq', rfl⟩ := List.mem_map.1 hq
    exact (h3 q' hq').1.2.1
  · rw [h4, List.map_map, List.map_map]
    exact List.map_congr_left fun q hq => (h3 q hq).1.2.2
theorem arg_one {α : Type} {t : TypeId} {R : α → List Value → DataW H → Prop} (hR : Opens enc P w base sp held t R) {v : Value} {d : DataW H} {ps : List MemPlace} (h : DataW.Trod enc P w base sp held t v d ps) : ∃ a, R a v.cells.toList d := by
  obtain ⟨n, hn⟩ := h
  exact hR n _ _ hn
theorem arg_of {r : Reach} {b0 : Nat} {t : TypeId} {v u : Value} {d : TypeDesc} (hu : P.underlying t = some d) (hd : isAggD d = false) (hval : Value.okWide P w r b0 t v) (h : v.cells.toList = [u]) : v = u := by
  cases v with
  | agg cs =>
    unfold Value.okWide at hval
    rw [hu] at hval
    cases d <;> simp_all [Cell.okWide, Cell.ok, isAggD]
  | _ => simpa [Value.cells] using h
theorem arg_agg {r : Reach} {b0 : Nat} {t : TypeId} {v : Value} {d : TypeDesc} {cs : List Value} (hu : P.underlying t = some d) (hd : isAggD d = true) (hval : Value.okWide P w r b0 t v) (h : v.cells.toList = cs) : v = .agg cs.toArray := by
  subst h
  unfold Value.okWide at hval
  rw [hu] at hval
  cases d <;> simp [isAggD] at hd
  all_goals
    obtain ⟨c, rfl, _⟩ := hval
    simp [Value.cells]
end
end Go.PL
namespace Go.PL
open Go Go.RowKit
section
variable {P : Program} {n : Cx} {R : World → Prop} {L : Slots} {Q : Exit → Act → World → Prop} {ops : Array Oper} {rest : List Oper}
abbrev Eq8 (P : Program) (t : TypeId) (N : Nat) : Prop := EqC P 2 t true N (fun cs => cs.length = N ∧ ∀ i, i < N → IntCell .u8 ((cs.drop (i * 1)).take 1))
theorem w8s {xs : List UInt8} {N : Nat} (h : xs.length = N) : (v8s xs).length = N ∧ ∀ i, i < N → IntCell .u8 (((v8s xs).drop (i * 1)).take 1) := by
  refine ⟨by rw [v8s_length, h], fun i hi => ?_⟩
  have hlt : i < (v8s xs).length := by rw [v8s_length, h]; exact hi
  rw [Nat.mul_one, List.drop_eq_getElem_cons hlt, List.take_succ_cons, List.take_zero]
  exact ⟨_, by simp only [v8s, List.getElem_map]; rfl⟩
theorem q_eq8 {t t' : TypeId} {x y : Operand} {N : Nat} {xs ys : List UInt8} (h : Eq8 P t N) (hg : P.eqGuardType P.depth t = false) (hx : ev L x = some (.agg (v8s xs).toArray)) (hy : ev L y = some (.agg (v8s ys).toArray)) (hxl : xs.length = N) (hyl : ys.length = N) :
    QOp P n R L (.binOp .eql t x y t') (.bool (decide (xs = ys))) :=
  q_eqA h zz19 hg hx hy (w8s hxl) (w8s hyl) _ (by simp only [decide_eq_true_eq]; exact ⟨fun e => by rw [e], fun e => v8s_inj e⟩)
theorem q_ne8 {t t' : TypeId} {x y : Operand} {N : Nat} {xs ys : List UInt8} (h : Eq8 P t N) (hg : P.eqGuardType P.depth t = false) (hx : ev L x = some (.agg (v8s xs).toArray)) (hy : ev L y = some (.agg (v8s ys).toArray)) (hxl : xs.length = N) (hyl : ys.length = N) :
    QOp P n R L (.binOp .neq t x y t') (.bool (!decide (xs = ys))) :=
  q_neA h zz19 hg hx hy (w8s hxl) (w8s hyl) _ (by simp only [Bool.not_eq_true', decide_eq_false_iff_not]; exact ⟨fun e h => e (v8s_inj h), fun e h => e (by rw [h])⟩)
theorem q_tru {op : Op} {p : Prop} [Decidable p] (h : QOp P n R L op (.bool (decide p))) (hp : p) : QOp P n R L op (.bool true) := qop_eq h (by simp [hp])
theorem q_fal {op : Op} {p : Prop} [Decidable p] (h : QOp P n R L op (.bool (decide p))) (hp : ¬ p) : QOp P n R L op (.bool false) := qop_eq h (by simp [hp])
theorem q_bt {op : Op} {b c : Bool} (h : QOp P n R L op (.bool b)) (hp : b = c) : QOp P n R L op (.bool c) := hp ▸ h
theorem t_tru {op : Op} {ι : Type} {p : Prop} [Decidable p] {R' : ι → World → Prop} (h : TOp P Q n R L op ι (fun _ => .bool (decide p)) R') (hp : p) : TOp P Q n R L op ι (fun _ => .bool true) R' := by
  have e : decide p = true := by simp [hp]
  rw [e] at h; exact h
theorem t_fal {op : Op} {ι : Type} {p : Prop} [Decidable p] {R' : ι → World → Prop} (h : TOp P Q n R L op ι (fun _ => .bool (decide p)) R') (hp : ¬ p) : TOp P Q n R L op ι (fun _ => .bool false) R' := by
  have e : decide p = false := by simp [hp]
  rw [e] at h; exact h
theorem t_bt {op : Op} {ι : Type} {b c : Bool} {R' : ι → World → Prop} (h : TOp P Q n R L op ι (fun _ => .bool b) R') (hp : b = c) : TOp P Q n R L op ι (fun _ => .bool c) R' := hp ▸ h
theorem q_eqI {t t' : TypeId} {x y : Operand} {a b : Int} (hx : ev L x = some (.int .i64 a)) (hy : ev L y = some (.int .i64 b)) : QOp P n R L (.binOp .eql t x y t') (.bool (decide (a = b))) :=
  qop_eq (q_bin (v := .int .i64 b) (u := .int .i64 a) (r := .bool (a == b)) hx hy rfl) (by by_cases h : a = b <;> simp [h])
theorem q_neI {t t' : TypeId} {x y : Operand} {a b : Int} (hx : ev L x = some (.int .i64 a)) (hy : ev L y = some (.int .i64 b)) : QOp P n R L (.binOp .neq t x y t') (.bool (!decide (a = b))) :=
  qop_eq (q_bin (v := .int .i64 b) (u := .int .i64 a) (r := .bool (a != b)) hx hy rfl) (by by_cases h : a = b <;> simp [h, bne])
end
end Go.PL
namespace Go.PL
open Go Go.RowKit
section
variable {P : Program} {n : Cx} {R : World → Prop} {L : Slots} {Q : Exit → Act → World → Prop} {ops : Array Oper} {rest : List Oper}
variable {w0 w : World} {Ln : List Nat} {M : List Ent} {S : List Fact}
theorem wpAnyI_firstB {ops : Array Oper} {md : Region.Mode} {R0 : World → Prop} {i k : Nat} {oi : Oper} {v : Value} (B : List Nat) (hi : ops[i]? = some oi) (hik : i ≠ k) (hsel : ∀ (j : Nat) (o : Oper) cs b, ops[j]? = some o → o.op ≠ .select cs b)
    (hk : k ∈ B) (hB : ∀ j oj, j ∈ B → ops[j]? = some oj → ∃ e ∈ oj.after, Region.binds md e = true ∧ (e.on = i ∨ e.on ∈ B)) (hiB : i ∉ B)
    (hQ : ∀ c a w, Q (.panic c) (a.put oi.dst v) w → Q (.panic c) a w) :
    ∀ (fuel : Nat) (listed : Array Bool) (a : Act) (w : World),
      (∀ j oj, ops[j]? = some oj → j ≠ i → listed.getD j true = false → (∀ e ∈ oj.after, Region.binds md e = true → e.on ≠ i) → oi.apart ops oj = true) →
      i ∈ Region.ready md ops listed → (∀ j ∈ B, listed.getD j true = false) → YieldsIf P ops R0 oi v a → SK k R0 listed w →
      wpAnyI P md ops Q (SK k R0) fuel (listed.setIfInBounds i true) (a.put oi.dst v) w → wpAnyI P md ops Q (SK k R0) (fuel + 1) listed a w := by
  have hkf : ∀ listed : Array Bool, (∀ j ∈ B, listed.getD j true = false) → listed.getD k false = false := fun listed h => by
    have := h k hk
    rcases Nat.lt_or_ge k listed.size with h' | h'
    · simpa [h'] using this
    · simp [Array.getElem?_eq_none h'] at this
  intro fuel
  induction fuel with
  | zero =>
    intro listed a w _ hr hun hy hS H
    have hR : R0 w := hS.resolve_left (by simp [hkf _ hun])
    refine ⟨fun h => zz46, fun j hj => ?_⟩
    by_cases hji : j = i
    · subst hji; exact hy.wpOp hi hR ⟨.inr hR, H⟩
    · have := ready_mono hj hji
      rw [H.1] at this
      cases this
  | succ fuel ih =>
    intro listed a w hfree hr hun hy hS H
    have hR : R0 w := hS.resolve_left (by simp [hkf _ hun])
    refine ⟨fun h => zz46, fun j hj => ?_⟩
    by_cases hji : j = i
    · subst hji; exact hy.wpOp hi hR ⟨.inr hR, H⟩
    · have h1 := H.2 j (ready_mono hj hji)
      obtain ⟨hjun, oj, hoj, hall⟩ := mem_ready.1 hj
      have und : ∀ m, listed.getD m true = false → listed[m]? = some true → False := fun m h0 h1 => by
        rcases Nat.lt_or_ge m listed.size with h' | h'
        · simp [h'] at h0 h1; rw [h0] at h1; cases h1
        · simp [Array.getElem?_eq_none h'] at h1
      have hnot : ∀ e ∈ oj.after, Region.binds md e = true → e.on ≠ i := fun e he hb heq => by
        have h1 := hall e he hb
        have h0 := (mem_ready.1 hr).1
        rw [heq] at h1
        rcases Nat.lt_or_ge i listed.size with h' | h'
        · simp [h'] at h0 h1; rw [h0] at h1; cases h1
        · simp [Array.getElem?_eq_none h'] at h1
      have hjB : j ∉ B := fun hjB => by
        obtain ⟨e, he, hb, heq⟩ := hB j oj hjB hoj
        rcases heq with heq | heq
        · exact hnot e he hb heq
        · have h1 := hall e he hb
          have h0 := hun e.on heq
          rcases Nat.lt_or_ge e.on listed.size with h' | h'
          · simp [h'] at h0 h1; rw [h0] at h1; cases h1
          · simp [Array.getElem?_eq_none h'] at h0
      have hjk : j ≠ k := fun e => hjB (e ▸ hk)
      have h2 := wpOp_putIf hoj (hfree j oj hoj hji hjun hnot) (fun cs b => hsel i oi cs b hi) (fun cs b => hsel j oj cs b hoj) hQ hy h1
      have hfree' : ∀ m om, ops[m]? = some om → m ≠ i → (listed.setIfInBounds j true).getD m true = false →
          (∀ e ∈ om.after, Region.binds md e = true → e.on ≠ i) → oi.apart ops om = true := fun m om hm hmi hun' hno => by
        refine hfree m om hm hmi ?_ hno
        by_cases hjm : j = m
        · subst hjm; exact hjun
        · rw [getD_set_ne true hjm] at hun'; exact hun'
      refine wpOp_mono (fun a' w' h3 => ?_) h2
      have hS' : SK k R0 (listed.setIfInBounds j true) w' := by
        rcases h3.2.1 with h | h
        · refine .inl ?_
          rw [getD_set_ne' hjk, getD_set_ne' hik] at h
          rw [getD_set_ne' hjk]; exact h
        · exact .inr h
      refine ⟨hS', ih (listed.setIfInBounds j true) a' w' hfree' (ready_mono hr (Ne.symm hji)) (fun m hm => ?_) h3.1 hS' ?_⟩
      · have hjm : j ≠ m := fun e => hjB (e ▸ hm)
        rw [getD_set_ne true hjm]; exact hun m hm
      · rw [Array.setIfInBounds_comm _ _ hji]
        exact h3.2.2
def chkB (ops : Array Oper) (listed : Array Bool) (i k : Nat) (B : List Nat) : Bool :=
  B.contains k && !B.contains i && B.all (fun j => !listed.getD j true) && B.all fun j => match ops[j]? with
    | none => true
    | some o => o.after.any fun e => Region.binds .any e && (Nat.beq e.on i || B.contains e.on)
theorem chkB_spec {ops : Array Oper} {listed : Array Bool} {i k : Nat} {B : List Nat} (h : chkB ops listed i k B = true) : k ∈ B ∧ i ∉ B ∧ (∀ j ∈ B, listed.getD j true = false) ∧
    ∀ j oj, j ∈ B → ops[j]? = some oj → ∃ e ∈ oj.after, Region.binds .any e = true ∧ (e.on = i ∨ e.on ∈ B) := by
  simp only [chkB, Bool.and_eq_true, Bool.not_eq_true', List.all_eq_true] at h
  obtain ⟨⟨⟨h1, h2⟩, h3⟩, h4⟩ := h
  refine ⟨by simpa using h1, fun hm => ?_, fun j hj => by simpa using h3 j hj, fun j oj hj hoj => ?_⟩
  · have : B.contains i = true := by simpa using hm
    rw [h2] at this; cases this
  · have := h4 j hj
    rw [hoj] at this
    obtain ⟨e, he, hb⟩ := Array.any_eq_true'.1 this
    simp only [Bool.and_eq_true, Bool.or_eq_true] at hb
    exact ⟨e, he, hb.1, hb.2.imp Nat.eq_of_beq_eq_true fun h => by simpa using h⟩
theorem wpd_qB {ops : Array Oper} {R0 : World → Prop} {k fuel : Nat} {listed : Array Bool} {op : Op} {v : Value} {d : Nat} {ty : TypeId} {pos : String} {af : Array Edge} {g : Option (Nat × Bool)} (i : Nat) (B : List Nat) (hi : ops[i]? = some ⟨some d, op, ty, pos, af, g⟩) (hc : (chk ops listed i && !Nat.beq i k && chkB ops listed i k B) = true) (hg : Wants ops L g)
    (hop : QOp P n R0 L op v) (hd : Nat.blt d n.n = true) [hP : NoP Q] (hR : ∀ w, R w → R0 w)
    (next : WPD P ops Q n k R0 R ((d, v) :: L) fuel (listed.setIfInBounds i true)) : WPD P ops Q n k R0 R L (fuel + 1) listed := by
  intro a w hs hr
  simp only [Bool.and_eq_true, Bool.not_eq_true'] at hc
  obtain ⟨⟨hc, hik⟩, hcB⟩ := hc
  obtain ⟨hsel, hf, hrd⟩ := chk_spec hc
  obtain ⟨b1, b2, b3, b4⟩ := chkB_spec hcB
  have hik' : i ≠ k := fun e => by subst e; simp [Nat.beq_refl] at hik
  exact wpAnyI_firstB (R0 := R0) B hi hik' (Region.noSelect_spec hsel) b1 b4 b2 (fun c a w h => hP.out _ _ _ _ (defers_put _ _ _) h) fuel listed a w (Region.free_spec hi hf) hrd b3
    (.inl ⟨hg.spec hs, fun w' h' => hop _ _ _ _ _ a w' hs h'⟩) (.inr (hR w hr)) (next _ _ (hs.put hd v) hr)
def vns (xs : List Nat) : List Value := xs.map fun x => .int .i64 ((x : Nat) : Int)
theorem vns_get {xs : List Nat} {i : Nat} (h : i < xs.length) : (vns xs)[i]? = some (.int .i64 ((xs.getD i 0 : Nat) : Int)) := getD_map_some (fun x : Nat => (.int .i64 ((x : Nat) : Int) : Value)) xs 0 h
theorem vns_append (xs ys : List Nat) : vns (xs ++ ys) = vns xs ++ vns ys := by simp [vns]
theorem vns_set {xs : List Nat} {i : Nat} (x : Nat) : (vns xs).set i (.int .i64 ((x : Nat) : Int)) = vns (xs.set i x) := by simp [vns, List.map_set]
theorem vns_length (xs : List Nat) : (vns xs).length = xs.length := by simp [vns]
theorem vns_one (xs : List Nat) : ∀ u ∈ vns xs, u.oneCell' = true := by
  intro u hu; obtain ⟨x, _, rfl⟩ := List.mem_map.1 hu; rfl
theorem vns_inj {xs ys : List Nat} (h : vns xs = vns ys) : xs = ys := by
  induction xs generalizing ys with
  | nil => cases ys with
    | nil => rfl
    | cons y r => simp [vns] at h
  | cons x r ih => cases ys with
    | nil => simp [vns] at h
    | cons y s =>
      simp only [vns, List.map_cons, List.cons.injEq, Value.int.injEq, true_and] at h
      rw [ih h.2, show x = y from zz12]
theorem q_idxVN {t e N : Nat} {x i : Operand} {cs : List Value} {k : IntKind} {j : Nat} {z v : Value} {by_ : Nat} {d : TypeDesc} (hu : P.underlying t = some (.array N e)) (he : TyI P e z 1 by_) (hd : P.underlying e = some d) (ha : isAggD d = false)
    (hx : ev L x = some (.agg cs.toArray)) (hi : ev L i = some (.int k ((j : Nat) : Int))) (h1 : j < N) (hv : cs[j]? = some v) : QOp P n R L (.index t x i) v := q_idxV hu he hd ha hx hi zz12 zz12 j zz12 hv
theorem t_apF {t e : TypeId} {s x : Operand} {b m : Nat} {u : Value} {k : Nat} {xs news : List Value} {z : Value} {sz by_ : Nat} (hu : P.underlying t = some (.slice e)) (he : TyI P e z sz by_) (hz1 : z.cells.size = sz)
    (hs_ : ev L s = some (arv b m)) (hx : ev L x = some u) (hv : ∀ w, Mem w0 Ln M S w → Seen w.cell? (arv b m) m sz xs) (hsrc : ∀ w, Mem w0 Ln M S w → Seen w.cell? u k sz news) (hk : 0 < k)
    (h63 : m + k ≤ maxLen) (hby : (m + k) * by_ ≤ 140737488355328) (ys : List Value) (hys : xs ++ news = ys) :
    TOpP P Q n (Mem w0 Ln M S) L (.call { callee := .builtin .append, args := #[s, x], argTypes := #[t, t] }) Value (fun v' => SV v' (m + k)) (fun v' => v') (fun v' => Mem w0 Ln (.row v' (m + k) e sz ys :: M) S) := by
  intro d ty pos af g a w K hs hm hK
  subst hys
  obtain ⟨i, hi, hz, hsz', hby'⟩ := he.info
  subst hsz' hby'
  have h1 := hv w hm
  obtain ⟨q1, ad, cap, rfl, q3, q4, q5⟩ := hsrc w hm
  rcases q5 with ⟨rfl, rfl⟩ | ⟨ad', rfl, hc⟩
  · omega
  · have hh : ((m + k : Nat) : Int) ≤ 9223372036854775807 := by simp only [maxLen] at h63; omega
    have r1 := run_append_grow (P := P) w t ty e i z hu hi hz ⟨b, 0, none⟩ m m xs h1.len (Seen.cells h1) ad' k cap news q1 hc zz12 hh (growslice_fits zz12 hby)
    have hrun : (execOp a.eval ⟨d, .call { callee := .builtin .append, args := #[s, x], argTypes := #[t, t] }, ty, pos, af, g⟩).run P w = .ok (.value (.slice (some ⟨w.heap.size, 0, none⟩) (m + k) (grownCap w (m + k) m e)))
        (w.drew.alloc (.cells (xs.toArray ++ news.toArray ++ Builtin.zeroCells z.cells (grownCap w (m + k) m e - (m + k))) e)) := by
      simp only [execOp, resolve, invoke, builtin, Sem.run_bind, Sem.run_pure, Result.andThen_ok, List.map_toArray, List.map_cons, List.map_nil, hs.eval hs_, hs.eval hx]
      have : arv b m = .slice (some ⟨b, 0, none⟩) m m := rfl
      rw [this, r1]; rfl
    unfold Oper.wp
    rw [hrun]
    have hge := grownCap_ge w (m + k) m e
    have hcm : grownCap w (m + k) m e ≤ maxLen := grownCap_le_maxLen w (m + k) m e h63
    have hl1 := h1.len
    have hcl : (xs ++ news).length = (m + k) * i.size := by rw [List.length_append, hl1, q1, Nat.add_mul]
    have hd : Mem w0 Ln M S w.drew := hm.drew
    have hrow := hd.allocRow e (xs ++ news ++ (Builtin.zeroCells z.cells (grownCap w (m + k) m e - (m + k))).toList) (m + k) (grownCap w (m + k) m e) i.size (xs ++ news) (by
      rw [List.length_append, hcl, Array.length_toList, size_zeroCells, hz1, ← Nat.add_mul]
      congr 1; omega) hge hcm (by rw [List.take_append_of_le_length zz12]; exact List.take_of_length_le zz12)
    have ecs : (xs ++ news ++ (Builtin.zeroCells z.cells (grownCap w (m + k) m e - (m + k))).toList).toArray = xs.toArray ++ news.toArray ++ Builtin.zeroCells z.cells (grownCap w (m + k) m e - (m + k)) := by
      apply Array.ext'; simp
    rw [ecs] at hrow
    exact hK _ _ ⟨_, _, rfl, hge, hcm, fun h => by cases h⟩ hrow
theorem fill_flatN {s : Nat} (hs : 0 < s) (vs : List Value) (cells : Array Value) (h1 : ∀ v ∈ vs, v.cells.size = s) (hn : vs.length * s = cells.size) :
    Instr.fill (fun i => some (i * s, s)) cells ((vs.zipIdx 0).map fun x => (x.2, x.1)) = some (vs.map (·.cells.toList)).flatten.toArray := by
  obtain ⟨r, hr, hsz, hk⟩ := Great.fill_dense hs vs 0 cells h1 (by rw [Nat.zero_add]; omega)
  simp only [Nat.zero_add, Nat.zero_mul, Nat.zero_le, true_and] at hk
  rw [hr]
  congr 1
  have hlen : ∀ c ∈ vs.map (·.cells.toList), c.length = s := fun c hc => by
    obtain ⟨v, hv, rfl⟩ := List.mem_map.1 hc
    simpa using h1 v hv
  have hfl := flat_length hlen
  rw [List.length_map] at hfl
  apply Array.ext_getElem?
  intro k
  rw [hk k]
  by_cases hlt : k < vs.length * s
  · rw [if_pos hlt]
    have hq : k / s < vs.length := Nat.div_lt_of_lt_mul (by rw [Nat.mul_comm]; exact hlt)
    have hm := Nat.mod_lt k hs
    have hdm := Nat.div_add_mod k s
    rw [List.getElem?_toArray, Nat.sub_zero, List.getElem?_eq_getElem hq, Option.bind_some]
    have hj : k < (vs.map (·.cells.toList)).flatten.length := by omega
    obtain ⟨i, q, c, e1, e2, e3, e4⟩ := flat_get hlen (List.getElem?_eq_getElem hj)
    rw [List.getElem?_eq_getElem hj, ← e4]
    have ei : k / s = i := by rw [e1, Nat.mul_comm, Nat.mul_add_div hs, Nat.div_eq_of_lt e2]; omega
    have eq : k % s = q := by rw [e1, Nat.mul_comm, Nat.mul_add_mod, Nat.mod_eq_of_lt e2]
    subst ei eq
    rw [List.getElem?_map, List.getElem?_eq_getElem hq] at e3
    simp at e3
    rw [← e3]; simp
  · rw [if_neg hlt, Array.getElem?_eq_none zz12, List.getElem?_toArray, List.getElem?_eq_none zz12]
theorem t_bsG {t e : TypeId} {len : Nat} {parts : Array (Nat × Operand)} (vs : List Value) (cs : List Value) {z : Value} {sz by_ : Nat} (hu : P.underlying t = some (.slice e)) (he : TyI P e z sz by_) (hz1 : z.cells.size = sz) (hpos : 0 < sz)
    (hv : evp L parts.toList = some ((vs.zipIdx 0).map fun x => (x.2, x.1))) (hsmall : len * sz ≤ 2 ^ 24) (hlen : 0 < len) (hl : vs.length = len) (h1 : ∀ v ∈ vs, v.cells.size = sz) (hcs : (vs.map (·.cells.toList)).flatten = cs) :
    TOpP P Q n (Mem w0 Ln M S) L (.buildSlice t len parts) Value (fun v => SV v len) (fun v => v) (fun v => Mem w0 Ln (.row v len e sz cs :: M) S) := by
  subst hcs
  have hlen2 : ∀ c ∈ vs.map (·.cells.toList), c.length = sz := fun c hc => by
    obtain ⟨v, hv, rfl⟩ := List.mem_map.1 hc
    simpa using h1 v hv
  have hfl := flat_length hlen2
  rw [List.length_map, hl] at hfl
  refine t_bsW _ hu he hv hsmall (Nat.mul_pos hlen hpos) hz1 ?_ hfl
  exact fill_flatN hpos vs _ h1 (by
    have : ∀ c ∈ List.replicate len z.cells.toList, c.length = sz := fun c hc => by
      rw [List.eq_of_mem_replicate hc]; simpa using hz1
    have h2 := flat_length this
    simp only [List.length_replicate] at h2
    simpa [hl] using h2.symm)
theorem v8s_flat (xss : List (List UInt8)) : (xss.map v8s).flatten = v8s xss.flatten := by
  induction xss with
  | nil => rfl
  | cons x r ih => rw [List.map_cons, List.flatten_cons, ih, List.flatten_cons, v8s_append]
theorem flat_len {α : Type} {N : Nat} : ∀ (xss : List (List α)), (∀ x ∈ xss, x.length = N) → xss.flatten.length = xss.length * N
  | [], _ => by simp
  | x :: r, h => by rw [List.flatten_cons, List.length_append, flat_len r fun y hy => h y (List.mem_cons_of_mem _ hy), h x (List.mem_cons_self ..), List.length_cons, Nat.succ_mul]; omega
theorem flat_part {α : Type} {N : Nat} (xss : List (List α)) (h : ∀ x ∈ xss, x.length = N) : ∀ i, i < xss.length → (xss.flatten.drop (i * N)).take N = xss.getD i [] := by
  induction xss with
  | nil => intro i hi; simp at hi
  | cons x r ih =>
    intro i hi
    have hx := h x (List.mem_cons_self ..)
    cases i with
    | zero => rw [Nat.zero_mul, List.drop_zero, List.flatten_cons, List.take_append_of_le_length zz12, List.take_of_length_le zz12]; rfl
    | succ i =>
      rw [List.flatten_cons, Nat.succ_mul, List.drop_append, hx, List.drop_of_length_le zz12, List.nil_append, show i * N + N - N = i * N from zz12]
      exact ih (fun y hy => h y (List.mem_cons_of_mem _ hy)) i (by simpa using hi)
theorem part8 {N : Nat} {xss : List (List UInt8)} (h : ∀ x ∈ xss, x.length = N) {i : Nat} (hi : i < xss.length) : ((v8s xss.flatten).drop (i * N)).take N = v8s (xss.getD i []) := by
  rw [v8s_drop, v8s_take, flat_part xss h i hi]
theorem getD_mem_len {α : Type} {N : Nat} {xss : List (List α)} (h : ∀ x ∈ xss, x.length = N) {i : Nat} (hi : i < xss.length) : (xss.getD i []).length = N := by
  rw [List.getD_eq_getElem?_getD, List.getElem?_eq_getElem hi]; exact h _ (List.getElem_mem hi)
theorem all_one {α : Type} {N : Nat} {x : List α} (h : x.length = N) : ∀ y ∈ [x], y.length = N := by
  intro y hy; simp at hy; rw [hy]; exact h
theorem all_two {α : Type} {N : Nat} {x y : List α} (h : x.length = N) (h2 : y.length = N) : ∀ z ∈ [x, y], z.length = N := by
  intro z hz; simp at hz; rcases hz with rfl | rfl <;> assumption
theorem t_bsS {t e : TypeId} {len : Nat} {parts : Array (Nat × Operand)} (xss : List (List UInt8)) {z : Value} {sz by_ : Nat} (hu : P.underlying t = some (.slice e)) (he : TyI P e z sz by_) (hz1 : z.cells.size = sz) (hpos : 0 < sz)
    (hv : evp L parts.toList = some (((xss.map fun x => (Value.agg (v8s x).toArray)).zipIdx 0).map fun x => (x.2, x.1))) (hsmall : len * sz ≤ 2 ^ 24) (hlen : 0 < len) (hl : xss.length = len) (h1 : ∀ x ∈ xss, x.length = sz) :
    TOpP P Q n (Mem w0 Ln M S) L (.buildSlice t len parts) Value (fun v => SV v len) (fun v => v) (fun v => Mem w0 Ln (.row v len e sz (v8s xss.flatten) :: M) S) :=
  t_bsG _ _ hu he hz1 hpos hv hsmall hlen (by simpa using hl) (fun v hv => by
    obtain ⟨x, hx, rfl⟩ := List.mem_map.1 hv
    simpa [Value.cells, v8s_length] using h1 x hx) (by
    rw [← v8s_flat, List.map_map]; rfl)
theorem Seen.slv8 {r : Rd} {v : Value} {m : Nat} {bs : List UInt8} (h : Seen r v m 1 (v8s bs)) (l k : Nat) (h1 : l ≤ k) (h2 : k ≤ m) : Seen r (Go.PL.slv v l k 1) (k - l) 1 (v8s ((bs.drop l).take (k - l))) := by
  have := h.slv l k h1 h2
  rwa [Nat.mul_one, Nat.mul_one, v8s_drop, v8s_take] at this
theorem Seen.re8 {r : Rd} {v : Value} {m : Nat} {bs : List UInt8} (h : Seen r v m 1 (v8s bs)) : Seen r v bs.length 1 (v8s bs) := by
  have := h.len; rw [v8s_length, Nat.mul_one] at this; rw [this]; exact h
theorem Seen.re64 {r : Rd} {v : Value} {m : Nat} {bs : List UInt64} (h : Seen r v m 1 (v64s bs)) : Seen r v bs.length 1 (v64s bs) := by
  have := h.len; rw [v64s_length, Nat.mul_one] at this; rw [this]; exact h
theorem Seen.reN {r : Rd} {v : Value} {m : Nat} {bs : List Nat} (h : Seen r v m 1 (vns bs)) : Seen r v bs.length 1 (vns bs) := by
  have := h.len; rw [vns_length, Nat.mul_one] at this; rw [this]; exact h
theorem Seen.reS {r : Rd} {v : Value} {m N : Nat} {xss : List (List UInt8)} (h : Seen r v m N (v8s xss.flatten)) (hl : ∀ x ∈ xss, x.length = N) (hN : 0 < N) : Seen r v xss.length N (v8s xss.flatten) := by
  have := h.len; rw [v8s_length, flat_len xss hl] at this
  rw [Nat.eq_of_mul_eq_mul_right hN this]; exact h
theorem q_idxP1 {t e len : Nat} {x i : Operand} {ad : Addr} {k : IntKind} {j : Nat} {z : Value} {by_ : Nat} (hu : P.underlying t = some (.array len e)) (he : TyI P e z 1 by_)
    (hx : ev L x = some (.pointer (some ad))) (hi : ev L i = some (.int k ((j : Nat) : Int))) (h1 : j < len) :
    QOp P n R L (.indexAddr t x i) (.pointer (some (ad.add j))) := by
  intro d ty pos af g a w hs _
  simp only [execOp, hs.eval hx, hs.eval hi]
  simp [Instr.indexAt, asIntOf, run_underlying hu, Instr.sureAddr, h1, run_sz he]
theorem get2 {l : List (List UInt8)} {N i k : Nat} (h : ∀ x ∈ l, x.length = N) (hi : i < l.length) (hk : k < N) : (v8s l.flatten)[i * N + k]? = some (.int .u8 (((l.getD i []).getD k 0).toNat : Int)) := by
  have h1 := flat_part l h i hi
  have h2 : (v8s l.flatten)[i * N + k]? = (v8s (l.getD i []))[k]? := by
    rw [← h1, ← v8s_take, ← v8s_drop, List.getElem?_take, if_pos hk, List.getElem?_drop]
  rw [h2]
  exact v8s_get (by rw [getD_mem_len h hi]; exact hk)
theorem opens_arrs {H : Type} {enc : TypeId × Value → H} {P : Program} {w : World} {base : Nat} {sp : Nat → Bool} {held : Bool} {t a e : TypeId} {N : Nat} (ht : P.underlying t = some (.slice a)) (ha : P.underlying a = some (.array N e)) (he : P.underlying e = some (.int .u8)) (hc : P.cellsOf e = 1) (hca : P.cellsOf a = N) :
    Opens enc P w base sp held t (fun (p : Value × List (List UInt8)) c d => c = [p.1] ∧ Seen w.cell? p.1 p.2.length N (v8s p.2.flatten) ∧ (∀ x ∈ p.2, x.length = N)) := by
  intro n cs y h
  obtain ⟨⟨v, qs⟩, h1, h2, h3, h4⟩ := opens_slice ht hca (opens_arr ha hc hca (opens_u8 he)) n cs y h
  refine ⟨(v, qs.map (·.1)), h1, ?_, ?_⟩
  · have : (qs.map (·.2.1)).flatten = v8s (qs.map (·.1)).flatten := by
      clear h1 h2 h4
      induction qs with
      | nil => rfl
      | cons q r ih =>
        rw [List.map_cons, List.flatten_cons, ih fun q hq => h3 q (List.mem_cons_of_mem _ hq), (h3 q (List.mem_cons_self ..)).1.1, List.map_cons, List.flatten_cons, v8s_append]; rfl
    simp only [List.length_map]
    rw [← this]; exact h2
  · intro x hx
    obtain ⟨q, hq, rfl⟩ := List.mem_map.1 hx
    exact (h3 q hq).1.2
theorem Mem.marked {w' : World} {b : Nat} (h : Mem w0 [] M S w) (hos : w'.os = w.os) (htape : w'.tape = w.tape) (hout : w'.output = w.output) (hsz : w'.heap.size = w.heap.size) (hb : ∀ k, k ≠ b → w'.heap[k]? = w.heap[k]?)
    (hbn : inM M b = false) (hb0 : w0.heap.size ≤ b) (hc : ∀ a v, w.cell? a = some v → w'.cell? a = some v) : Mem w0 [] M S w' := by
  refine ⟨hos.trans h.os, htape.trans h.tape, hout.trans h.output, by rw [hsz]; exact h.size, fun k hk hl => (hb k zz12).trans (h.old k hk hl), fun e he => Ent.kept (h.own e he) fun k hk => hb k fun e' => ?_, h.new, h.apart, fun s hs => s.mono _ _ (fun a v hv => ?_) (h.facts s hs)⟩
  · subst e'; exact inM_not hbn e he hk
  · simp only [rdF] at hv ⊢
    split at hv
    · rename_i hcc
      rw [if_pos hcc]; exact hc _ _ hv
    · cases hv
theorem t_cvLit {t e : TypeId} {x : Operand} {v : Value} {m : Nat} {xs : List Value} {M' : List Ent} (hu : P.underlying t = some (.slice e)) (he : P.underlying e = some (.int .u8)) (hx : ev L x = some v) (hp : Pick M (.row v m e 1 xs) M') (hm0 : 0 < m) :
    TOp P Q n (Mem w0 [] M S) L (.convert t t x) Unit (fun _ => v) (fun _ => Mem w0 [] M' (seen v m 1 xs :: S)) := by
  intro d ty pos af g a w K hs hm hk
  have hfr := hm.freezeRow hp
  have hown : w.ownsRow 0 e 1 v m xs := hm.own _ hp.mem
  have hap := hp.apart hm.apart
  have hnew := hm.new _ hp.mem
  rcases hown.2 with ⟨rfl, h0⟩ | ⟨b, cap, cur, rfl, _, hg, h3, h4, h5, h6⟩
  · omega
  · have hsh : w.shape? b = some (e, cur.size) := by unfold World.shape?; rw [hg]
    have hrun : (execOp a.eval ⟨d, .convert t t x, ty, pos, af, g⟩).run P w = .ok (.value (.slice (some ⟨b, 0, none⟩) m cap)) (w.freeze ⟨b, cur.size, none⟩ 1) := by
      simp only [execOp, hs.eval hx]
      simp [convert, run_underlying hu, run_underlying he, markStringish, hsh]
    unfold Oper.wp
    rw [hrun]
    have hnum : (Ent.row (.slice (some ⟨b, 0, none⟩) m cap) m e 1 xs).num = some b := rfl
    have hF : w.freeze ⟨b, cur.size, none⟩ 1 = { w with heap := w.heap.modify b fun
      | .cells c elem (lo, hi) => .cells c elem (if lo == hi then (cur.size, cur.size + 1) else (min lo cur.size, max hi (cur.size + 1)))
      | o => o } := by unfold World.freeze; rw [if_neg zz19]; rfl
    have hne : ∀ k, k ≠ b → (w.freeze ⟨b, cur.size, none⟩ 1).heap[k]? = w.heap[k]? := fun k hk => by
      rw [hF]; simp only [Array.getElem?_modify]; rw [if_neg (fun e => hk e.symm)]
    have hbb : (w.freeze ⟨b, cur.size, none⟩ 1).heap[b]? = some (.cells cur e (cur.size, cur.size + 1)) := by
      rw [hF]; simp only [Array.getElem?_modify, hg, if_true]; simp
    refine hk () _ (hfr.marked (b := b) (by rw [hF]) (by rw [hF]) (by rw [hF]) (by rw [hF]; simp) hne (hap b hnum) ((hnew b hnum).resolve_right zz40) fun ad u hu => ?_)
    by_cases e' : ad.block = b
    · unfold World.cell? at hu ⊢
      rw [e', hbb]
      rw [e', hg] at hu
      exact hu
    · rw [World.cell?_of_block (hne _ e')]; exact hu
theorem bnot_true {p : Prop} [Decidable p] (h : ¬ p) : (!decide p) = true := by simp [h]
theorem bnot_false {p : Prop} [Decidable p] (h : p) : (!decide p) = false := by simp [h]
theorem wpl_re (t : Nat) {v v' : Value} (h : get L t = some v) (e : v = v') (next : WPL P ops Q n R ((t, v') :: L) rest) : WPL P ops Q n R L rest := by
  subst e
  intro a w hs hr
  exact next a w (hs.weaken fun t' u hu => by
    rw [get_cons] at hu
    by_cases ee : t = t'
    · subst ee; rw [if_pos rfl] at hu; cases hu; exact h
    · rw [if_neg ee] at hu; exact hu) hr
theorem wpd_re {k fuel : Nat} {R0 : World → Prop} {listed : Array Bool} (t : Nat) {v v' : Value} (h : get L t = some v) (e : v = v') (next : WPD P ops Q n k R0 R ((t, v') :: L) fuel listed) : WPD P ops Q n k R0 R L fuel listed := by
  subst e
  intro a w hs hr
  exact next a w (hs.weaken fun t' u hu => by
    rw [get_cons] at hu
    by_cases ee : t = t'
    · subst ee; rw [if_pos rfl] at hu; cases hu; exact h
    · rw [if_neg ee] at hu; exact hu) hr
theorem wpc_re {c : Code} (t : Nat) {v v' : Value} (h : get L t = some v) (e : v = v') (next : WPC P Q n R ((t, v') :: L) c) : WPC P Q n R L c := by
  subst e
  intro a w hs hr
  exact next a w (hs.weaken fun t' u hu => by
    rw [get_cons] at hu
    by_cases ee : t = t'
    · subst ee; rw [if_pos rfl] at hu; cases hu; exact h
    · rw [if_neg ee] at hu; exact hu) hr
theorem t_purV {f : Operand} {k : FuncId} {args : Array Operand} {at_ : Array TypeId} {cap : Array Value} {vs : List Value} {v : Value} (hf : ev L f = some (.func (.func k) #[] cap)) (hb : HasBody P k) (hv : evs L args.toList = some vs)
    (hc : ∀ w, Mem w0 Ln M S w → Calls P k (vs.toArray ++ cap) w (Pur w v)) :
    TOp P Q n (Mem w0 Ln M S) L (.call { callee := .value f, args := args, argTypes := at_ }) Unit (fun _ => v) (fun _ => Mem w0 Ln M S) :=
  t_callG hf hb hv fun w hm => (hc w hm).mono fun e w' ⟨he, hbel⟩ => ⟨(), he, by
    have := hm.call hbel (new_nil _ _)
    simpa using this⟩
end
end Go.PL
