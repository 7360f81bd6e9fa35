/- Unsigned numbers by Lean's own types: what the operations give. -/
import Derived.Test.YtoaeklbenmlooaaPLO
import Derived.Laws.Small
namespace Go.PL
set_option linter.unusedSimpArgs false
set_option linter.unusedVariables false
open Go Go.RowKit
section
variable {P : Program} {n : Cx} {R : World → Prop} {L : Slots} {Q : Exit → Act → World → Prop}
theorem q_bin {op : BinOp} {t t' : TypeId} {x y : Operand} {u v r : Value} (hx : ev L x = some u) (hy : ev L y = some v) (h : binV op u v = some r) : QOp P n R L (.binOp op t x y t') r :=
  q_pure (by simp only [pureOp, hx, hy]; exact h)
theorem qop_eq {op : Op} {u v : Value} (h : QOp P n R L op u) (e : u = v) : QOp P n R L op v := e ▸ h

theorem q_beq {t t' : TypeId} {x y : Operand} {a b : Bool} (hu : P.underlying t = some .bool) (hx : ev L x = some (.bool a)) (hy : ev L y = some (.bool b)) : QOp P n R L (.binOp .eql t x y t') (.bool (a == b)) := by
  intro d ty pos af g a' w hs _
  simp only [execOp, hs.eval hx, hs.eval hy]
  simp [eqGuard, run_eql_bool w t a b hu, pure]
theorem q_bne {t t' : TypeId} {x y : Operand} {a b : Bool} (hu : P.underlying t = some .bool) (hx : ev L x = some (.bool a)) (hy : ev L y = some (.bool b)) : QOp P n R L (.binOp .neq t x y t') (.bool (!(a == b))) := by
  intro d ty pos af g a' w hs _
  simp only [execOp, hs.eval hx, hs.eval hy]
  simp [eqGuard, run_neq_bool w t a b hu, pure]

/-- Shifts: of an int by a count that isn't negative. -/
theorem q_shl {t t' : TypeId} {x y : Operand} {k k' : IntKind} {a b : Int} (hx : ev L x = some (.int k a)) (hy : ev L y = some (.int k' b)) (h0 : 0 ≤ b) : QOp P n R L (.binOp .shl t x y t') (.int k (wk k (a * 2 ^ (min b.toNat k.bits)))) := by
  intro d ty pos af g a' w hs _
  simp only [execOp, hs.eval hx, hs.eval hy]
  have : ¬ b < 0 := by omega
  simp [eqGuard, binOp, Op.shift, this, wk_eq, pure]
theorem q_shr {t t' : TypeId} {x y : Operand} {k k' : IntKind} {a b : Int} (hx : ev L x = some (.int k a)) (hy : ev L y = some (.int k' b)) (h0 : 0 ≤ b) : QOp P n R L (.binOp .shr t x y t') (.int k (a.fdiv (2 ^ (min b.toNat k.bits)))) := by
  intro d ty pos af g a' w hs _
  simp only [execOp, hs.eval hx, hs.eval hy]
  have : ¬ b < 0 := by omega
  simp [eqGuard, binOp, Op.shift, this, wk_eq, pure]
/-- Division and rest: by a positive number. -/
theorem q_quo {t t' : TypeId} {x y : Operand} {k : IntKind} {a b : Int} (hx : ev L x = some (.int k a)) (hy : ev L y = some (.int k b)) (h0 : b ≠ 0) : QOp P n R L (.binOp .quo t x y t') (.int k (wk k (a.tdiv b))) := by
  intro d ty pos af g a' w hs _
  simp only [execOp, hs.eval hx, hs.eval hy]
  simp [eqGuard, binOp, Op.intDiv, h0, wk_eq, pure]
theorem q_rem {t t' : TypeId} {x y : Operand} {k : IntKind} {a b : Int} (hx : ev L x = some (.int k a)) (hy : ev L y = some (.int k b)) (h0 : b ≠ 0) : QOp P n R L (.binOp .rem t x y t') (.int k (a.tmod b)) := by
  intro d ty pos af g a' w hs _
  simp only [execOp, hs.eval hx, hs.eval hy]
  simp [eqGuard, binOp, Op.intDiv, h0, wk_eq, pure]

theorem wk_i64 {m : Int} (h0 : -9223372036854775808 ≤ m) (h1 : m ≤ 9223372036854775807) : wk .i64 m = m := by simp only [wk]; omega
theorem ofInt_natCast (w m : Nat) : BitVec.ofInt w (m : Int) = BitVec.ofNat w m := by simp
theorem and_nat (w a b : Nat) (ha : a < 2 ^ w) (hb : b < 2 ^ w) : (BitVec.ofInt w (a : Int) &&& BitVec.ofInt w (b : Int)).toNat = a &&& b := by
  rw [ofInt_natCast, ofInt_natCast, BitVec.toNat_and, BitVec.toNat_ofNat, BitVec.toNat_ofNat, Nat.mod_eq_of_lt ha, Nat.mod_eq_of_lt hb]
theorem or_nat (w a b : Nat) (ha : a < 2 ^ w) (hb : b < 2 ^ w) : (BitVec.ofInt w (a : Int) ||| BitVec.ofInt w (b : Int)).toNat = a ||| b := by
  rw [ofInt_natCast, ofInt_natCast, BitVec.toNat_or, BitVec.toNat_ofNat, BitVec.toNat_ofNat, Nat.mod_eq_of_lt ha, Nat.mod_eq_of_lt hb]
theorem xor_nat (w a b : Nat) (ha : a < 2 ^ w) (hb : b < 2 ^ w) : (BitVec.ofInt w (a : Int) ^^^ BitVec.ofInt w (b : Int)).toNat = a ^^^ b := by
  rw [ofInt_natCast, ofInt_natCast, BitVec.toNat_xor, BitVec.toNat_ofNat, BitVec.toNat_ofNat, Nat.mod_eq_of_lt ha, Nat.mod_eq_of_lt hb]
theorem not_nat (w a : Nat) (m : Int) (hm : BitVec.ofInt w m = BitVec.allOnes w) : (BitVec.ofInt w m ^^^ BitVec.ofInt w (a : Int)) = ~~~ BitVec.ofNat w a := by
  rw [hm, ofInt_natCast, BitVec.allOnes_xor]


/-! ### UInt8 -/
theorem wk8 (m : Nat) : wk .u8 (m : Int) = (((UInt8.ofNat m).toNat : Nat) : Int) := by
  simp only [wk, UInt8.toNat_ofNat']
  omega
def sl8 (a : UInt8) (c : Nat) : UInt8 := UInt8.ofNat (a.toNat * 2 ^ min c 8)
def sr8 (a : UInt8) (c : Nat) : UInt8 := UInt8.ofNat (a.toNat / 2 ^ min c 8)
theorem q8_add {t t' : TypeId} {x y : Operand} {a b : UInt8} (hx : ev L x = some (.int .u8 a.toNat)) (hy : ev L y = some (.int .u8 b.toNat)) : QOp P n R L (.binOp .add t x y t') (.int .u8 (a + b).toNat) :=
  q_bin hx hy (by
    have : wk .u8 ((a.toNat : Int) + b.toNat) = ((a + b).toNat : Nat) := by simp only [wk, UInt8.toNat_add]; omega
    simp only [binV, arithI, this])
theorem q8_sub {t t' : TypeId} {x y : Operand} {a b : UInt8} (hx : ev L x = some (.int .u8 a.toNat)) (hy : ev L y = some (.int .u8 b.toNat)) : QOp P n R L (.binOp .sub t x y t') (.int .u8 (a - b).toNat) :=
  q_bin hx hy (by
    have h1 := a.toNat_lt; have h2 := b.toNat_lt
    have : wk .u8 ((a.toNat : Int) - b.toNat) = ((a - b).toNat : Nat) := by simp only [wk, UInt8.toNat_sub]; omega
    simp only [binV, arithI, this])
theorem q8_mul {t t' : TypeId} {x y : Operand} {a b : UInt8} (hx : ev L x = some (.int .u8 a.toNat)) (hy : ev L y = some (.int .u8 b.toNat)) : QOp P n R L (.binOp .mul t x y t') (.int .u8 (a * b).toNat) :=
  q_bin hx hy (by
    have : wk .u8 ((a.toNat : Int) * b.toNat) = ((a * b).toNat : Nat) := by simp only [wk, UInt8.toNat_mul]; rw [← Int.natCast_mul]; omega
    simp only [binV, arithI, this])
theorem q8_and {t t' : TypeId} {x y : Operand} {a b : UInt8} (hx : ev L x = some (.int .u8 a.toNat)) (hy : ev L y = some (.int .u8 b.toNat)) : QOp P n R L (.binOp .and t x y t') (.int .u8 (a &&& b).toNat) :=
  q_bin hx hy (by
    have h1 := (a &&& b).toNat_lt
    have h2 : (BitVec.ofInt IntKind.u8.bits (a.toNat : Int) &&& BitVec.ofInt IntKind.u8.bits (b.toNat : Int)).toNat = (a &&& b).toNat :=
      (and_nat _ _ _ a.toNat_lt b.toNat_lt).trans (UInt8.toNat_and a b).symm
    have : wk .u8 (((a &&& b).toNat : Nat) : Int) = ((a &&& b).toNat : Nat) := by simp only [wk]; omega
    simp only [binV, arithI, h2, this])
theorem q8_or {t t' : TypeId} {x y : Operand} {a b : UInt8} (hx : ev L x = some (.int .u8 a.toNat)) (hy : ev L y = some (.int .u8 b.toNat)) : QOp P n R L (.binOp .or t x y t') (.int .u8 (a ||| b).toNat) :=
  q_bin hx hy (by
    have h1 := (a ||| b).toNat_lt
    have h2 : (BitVec.ofInt IntKind.u8.bits (a.toNat : Int) ||| BitVec.ofInt IntKind.u8.bits (b.toNat : Int)).toNat = (a ||| b).toNat :=
      (or_nat _ _ _ a.toNat_lt b.toNat_lt).trans (UInt8.toNat_or a b).symm
    have : wk .u8 (((a ||| b).toNat : Nat) : Int) = ((a ||| b).toNat : Nat) := by simp only [wk]; omega
    simp only [binV, arithI, h2, this])
theorem q8_xor {t t' : TypeId} {x y : Operand} {a b : UInt8} (hx : ev L x = some (.int .u8 a.toNat)) (hy : ev L y = some (.int .u8 b.toNat)) : QOp P n R L (.binOp .xor t x y t') (.int .u8 (a ^^^ b).toNat) :=
  q_bin hx hy (by
    have h1 := (a ^^^ b).toNat_lt
    have h2 : (BitVec.ofInt IntKind.u8.bits (a.toNat : Int) ^^^ BitVec.ofInt IntKind.u8.bits (b.toNat : Int)).toNat = (a ^^^ b).toNat :=
      (xor_nat _ _ _ a.toNat_lt b.toNat_lt).trans (UInt8.toNat_xor a b).symm
    have : wk .u8 (((a ^^^ b).toNat : Nat) : Int) = ((a ^^^ b).toNat : Nat) := by simp only [wk]; omega
    simp only [binV, arithI, h2, this])
theorem q8_eql {t t' : TypeId} {x y : Operand} {a b : UInt8} (hx : ev L x = some (.int .u8 a.toNat)) (hy : ev L y = some (.int .u8 b.toNat)) : QOp P n R L (.binOp .eql t x y t') (.bool (decide (a = b))) :=
  q_bin hx hy (by
    have : ((a.toNat : Int) == b.toNat) = decide (a = b) := by
      rw [Bool.eq_iff_iff]; simp [← UInt8.toNat_inj]; omega
    simp only [binV, arithI, this])
theorem q8_neq {t t' : TypeId} {x y : Operand} {a b : UInt8} (hx : ev L x = some (.int .u8 a.toNat)) (hy : ev L y = some (.int .u8 b.toNat)) : QOp P n R L (.binOp .neq t x y t') (.bool (!decide (a = b))) :=
  q_bin hx hy (by
    have : ((a.toNat : Int) != b.toNat) = !decide (a = b) := by
      rw [Bool.eq_iff_iff]; simp [← UInt8.toNat_inj]; omega
    simp only [binV, arithI, this])
theorem q8_shl {t t' : TypeId} {x y : Operand} {a : UInt8} {k' : IntKind} {b : Int} (hx : ev L x = some (.int .u8 a.toNat)) (hy : ev L y = some (.int k' b)) (h0 : 0 ≤ b) (c : Nat) (hc : b.toNat = c) : QOp P n R L (.binOp .shl t x y t') (.int .u8 (sl8 a c).toNat) :=
  qop_eq (q_shl hx hy h0) (by
    subst hc
    have : ((a.toNat : Int) * 2 ^ min b.toNat IntKind.u8.bits) = ((a.toNat * 2 ^ min b.toNat 8 : Nat) : Int) := by simp [IntKind.bits]
    rw [this, wk8]; rfl)
theorem q8_shr {t t' : TypeId} {x y : Operand} {a : UInt8} {k' : IntKind} {b : Int} (hx : ev L x = some (.int .u8 a.toNat)) (hy : ev L y = some (.int k' b)) (h0 : 0 ≤ b) (c : Nat) (hc : b.toNat = c) : QOp P n R L (.binOp .shr t x y t') (.int .u8 (sr8 a c).toNat) :=
  qop_eq (q_shr hx hy h0) (by
    subst hc
    have h1 : ((a.toNat : Int).fdiv (2 ^ min b.toNat IntKind.u8.bits)) = ((a.toNat / 2 ^ min b.toNat 8 : Nat) : Int) := by
      rw [Int.fdiv_eq_ediv_of_nonneg _ (by exact Int.le_of_lt (Int.pow_pos (by decide)))]
      simp [IntKind.bits]
    have h2 : a.toNat / 2 ^ min b.toNat 8 < 256 := Nat.lt_of_le_of_lt (Nat.div_le_self _ _) a.toNat_lt
    rw [h1]
    simp only [sr8, UInt8.toNat_ofNat']
    rw [Nat.mod_eq_of_lt h2])
theorem q8_not {t : TypeId} {x : Operand} {a : UInt8} (hx : ev L x = some (.int .u8 a.toNat)) : QOp P n R L (.unOp .xor t x) (.int .u8 (~~~a).toNat) := by
  intro d ty pos af g a' w hs _
  simp only [execOp, hs.eval hx]
  have h2 : (BitVec.ofInt IntKind.u8.bits IntKind.u8.max ^^^ BitVec.ofInt IntKind.u8.bits (a.toNat : Int)).toNat = (~~~a).toNat := by
    rw [not_nat _ _ _ (by decide)]
    have e2 : BitVec.ofNat IntKind.u8.bits a.toNat = a.toBitVec := BitVec.eq_of_toNat_eq ((BitVec.toNat_ofNat _ _).trans (Nat.mod_eq_of_lt a.toNat_lt))
    rw [e2]
    rfl
  have : wk .u8 (((~~~a).toNat : Nat) : Int) = ((~~~a).toNat : Nat) := by
    have h1 := (~~~a).toNat_lt
    simp only [wk]; omega
  have hr : (Op.unary .xor (.int .u8 (a.toNat : Int))).run P w = .ok (.int .u8 (IntKind.u8.wrap ((BitVec.ofInt IntKind.u8.bits IntKind.u8.max ^^^ BitVec.ofInt IntKind.u8.bits (a.toNat : Int)).toNat))) w := rfl
  rw [h2, wk_eq, this] at hr
  simp only [Sem.run_bind, hr, Result.andThen_ok, Sem.run_pure]
/-- Out of an int. -/
def of8 (m : Int) : UInt8 := UInt8.ofNat (m % 256).toNat
theorem of8_toNat (m : Int) : ((of8 m).toNat : Int) = m % 256 := by simp only [of8, UInt8.toNat_ofNat']; omega
theorem of8_cast (a : UInt8) : of8 (a.toNat : Int) = a := by
  have h := a.toNat_lt
  rw [← UInt8.toNat_inj]; have := of8_toNat (a.toNat : Int); omega
theorem q8_conv {s t : TypeId} {x : Operand} {k' : IntKind} {m : Int} {ds : TypeDesc} (hs' : P.underlying s = some ds) (hu : P.underlying t = some (.int .u8)) (hx : ev L x = some (.int k' m)) : QOp P n R L (.convert s t x) (.int .u8 (of8 m).toNat) :=
  qop_eq (q_conv hs' hu hx) (by rw [of8_toNat]; rfl)
theorem q8_int {s t : TypeId} {x : Operand} {a : UInt8} {ds : TypeDesc} (hs' : P.underlying s = some ds) (hu : P.underlying t = some (.int .i64)) (hx : ev L x = some (.int .u8 a.toNat)) : QOp P n R L (.convert s t x) (.int .i64 a.toNat) :=
  qop_eq (q_conv hs' hu hx) (by have h := a.toNat_lt; rw [wk_i64 (by omega) (by omega)])


/-! ### UInt16 -/
theorem wk16 (m : Nat) : wk .u16 (m : Int) = (((UInt16.ofNat m).toNat : Nat) : Int) := by
  simp only [wk, UInt16.toNat_ofNat']
  omega
def sl16 (a : UInt16) (c : Nat) : UInt16 := UInt16.ofNat (a.toNat * 2 ^ min c 16)
def sr16 (a : UInt16) (c : Nat) : UInt16 := UInt16.ofNat (a.toNat / 2 ^ min c 16)
theorem q16_add {t t' : TypeId} {x y : Operand} {a b : UInt16} (hx : ev L x = some (.int .u16 a.toNat)) (hy : ev L y = some (.int .u16 b.toNat)) : QOp P n R L (.binOp .add t x y t') (.int .u16 (a + b).toNat) :=
  q_bin hx hy (by
    have : wk .u16 ((a.toNat : Int) + b.toNat) = ((a + b).toNat : Nat) := by simp only [wk, UInt16.toNat_add]; omega
    simp only [binV, arithI, this])
theorem q16_sub {t t' : TypeId} {x y : Operand} {a b : UInt16} (hx : ev L x = some (.int .u16 a.toNat)) (hy : ev L y = some (.int .u16 b.toNat)) : QOp P n R L (.binOp .sub t x y t') (.int .u16 (a - b).toNat) :=
  q_bin hx hy (by
    have h1 := a.toNat_lt; have h2 := b.toNat_lt
    have : wk .u16 ((a.toNat : Int) - b.toNat) = ((a - b).toNat : Nat) := by simp only [wk, UInt16.toNat_sub]; omega
    simp only [binV, arithI, this])
theorem q16_mul {t t' : TypeId} {x y : Operand} {a b : UInt16} (hx : ev L x = some (.int .u16 a.toNat)) (hy : ev L y = some (.int .u16 b.toNat)) : QOp P n R L (.binOp .mul t x y t') (.int .u16 (a * b).toNat) :=
  q_bin hx hy (by
    have : wk .u16 ((a.toNat : Int) * b.toNat) = ((a * b).toNat : Nat) := by simp only [wk, UInt16.toNat_mul]; rw [← Int.natCast_mul]; omega
    simp only [binV, arithI, this])
theorem q16_and {t t' : TypeId} {x y : Operand} {a b : UInt16} (hx : ev L x = some (.int .u16 a.toNat)) (hy : ev L y = some (.int .u16 b.toNat)) : QOp P n R L (.binOp .and t x y t') (.int .u16 (a &&& b).toNat) :=
  q_bin hx hy (by
    have h1 := (a &&& b).toNat_lt
    have h2 : (BitVec.ofInt IntKind.u16.bits (a.toNat : Int) &&& BitVec.ofInt IntKind.u16.bits (b.toNat : Int)).toNat = (a &&& b).toNat :=
      (and_nat _ _ _ a.toNat_lt b.toNat_lt).trans (UInt16.toNat_and a b).symm
    have : wk .u16 (((a &&& b).toNat : Nat) : Int) = ((a &&& b).toNat : Nat) := by simp only [wk]; omega
    simp only [binV, arithI, h2, this])
theorem q16_or {t t' : TypeId} {x y : Operand} {a b : UInt16} (hx : ev L x = some (.int .u16 a.toNat)) (hy : ev L y = some (.int .u16 b.toNat)) : QOp P n R L (.binOp .or t x y t') (.int .u16 (a ||| b).toNat) :=
  q_bin hx hy (by
    have h1 := (a ||| b).toNat_lt
    have h2 : (BitVec.ofInt IntKind.u16.bits (a.toNat : Int) ||| BitVec.ofInt IntKind.u16.bits (b.toNat : Int)).toNat = (a ||| b).toNat :=
      (or_nat _ _ _ a.toNat_lt b.toNat_lt).trans (UInt16.toNat_or a b).symm
    have : wk .u16 (((a ||| b).toNat : Nat) : Int) = ((a ||| b).toNat : Nat) := by simp only [wk]; omega
    simp only [binV, arithI, h2, this])
theorem q16_xor {t t' : TypeId} {x y : Operand} {a b : UInt16} (hx : ev L x = some (.int .u16 a.toNat)) (hy : ev L y = some (.int .u16 b.toNat)) : QOp P n R L (.binOp .xor t x y t') (.int .u16 (a ^^^ b).toNat) :=
  q_bin hx hy (by
    have h1 := (a ^^^ b).toNat_lt
    have h2 : (BitVec.ofInt IntKind.u16.bits (a.toNat : Int) ^^^ BitVec.ofInt IntKind.u16.bits (b.toNat : Int)).toNat = (a ^^^ b).toNat :=
      (xor_nat _ _ _ a.toNat_lt b.toNat_lt).trans (UInt16.toNat_xor a b).symm
    have : wk .u16 (((a ^^^ b).toNat : Nat) : Int) = ((a ^^^ b).toNat : Nat) := by simp only [wk]; omega
    simp only [binV, arithI, h2, this])
theorem q16_eql {t t' : TypeId} {x y : Operand} {a b : UInt16} (hx : ev L x = some (.int .u16 a.toNat)) (hy : ev L y = some (.int .u16 b.toNat)) : QOp P n R L (.binOp .eql t x y t') (.bool (decide (a = b))) :=
  q_bin hx hy (by
    have : ((a.toNat : Int) == b.toNat) = decide (a = b) := by
      rw [Bool.eq_iff_iff]; simp [← UInt16.toNat_inj]; omega
    simp only [binV, arithI, this])
theorem q16_neq {t t' : TypeId} {x y : Operand} {a b : UInt16} (hx : ev L x = some (.int .u16 a.toNat)) (hy : ev L y = some (.int .u16 b.toNat)) : QOp P n R L (.binOp .neq t x y t') (.bool (!decide (a = b))) :=
  q_bin hx hy (by
    have : ((a.toNat : Int) != b.toNat) = !decide (a = b) := by
      rw [Bool.eq_iff_iff]; simp [← UInt16.toNat_inj]; omega
    simp only [binV, arithI, this])
theorem q16_shl {t t' : TypeId} {x y : Operand} {a : UInt16} {k' : IntKind} {b : Int} (hx : ev L x = some (.int .u16 a.toNat)) (hy : ev L y = some (.int k' b)) (h0 : 0 ≤ b) (c : Nat) (hc : b.toNat = c) : QOp P n R L (.binOp .shl t x y t') (.int .u16 (sl16 a c).toNat) :=
  qop_eq (q_shl hx hy h0) (by
    subst hc
    have : ((a.toNat : Int) * 2 ^ min b.toNat IntKind.u16.bits) = ((a.toNat * 2 ^ min b.toNat 16 : Nat) : Int) := by simp [IntKind.bits]
    rw [this, wk16]; rfl)
theorem q16_shr {t t' : TypeId} {x y : Operand} {a : UInt16} {k' : IntKind} {b : Int} (hx : ev L x = some (.int .u16 a.toNat)) (hy : ev L y = some (.int k' b)) (h0 : 0 ≤ b) (c : Nat) (hc : b.toNat = c) : QOp P n R L (.binOp .shr t x y t') (.int .u16 (sr16 a c).toNat) :=
  qop_eq (q_shr hx hy h0) (by
    subst hc
    have h1 : ((a.toNat : Int).fdiv (2 ^ min b.toNat IntKind.u16.bits)) = ((a.toNat / 2 ^ min b.toNat 16 : Nat) : Int) := by
      rw [Int.fdiv_eq_ediv_of_nonneg _ (by exact Int.le_of_lt (Int.pow_pos (by decide)))]
      simp [IntKind.bits]
    have h2 : a.toNat / 2 ^ min b.toNat 16 < 65536 := Nat.lt_of_le_of_lt (Nat.div_le_self _ _) a.toNat_lt
    rw [h1]
    simp only [sr16, UInt16.toNat_ofNat']
    rw [Nat.mod_eq_of_lt h2])
theorem q16_not {t : TypeId} {x : Operand} {a : UInt16} (hx : ev L x = some (.int .u16 a.toNat)) : QOp P n R L (.unOp .xor t x) (.int .u16 (~~~a).toNat) := by
  intro d ty pos af g a' w hs _
  simp only [execOp, hs.eval hx]
  have h2 : (BitVec.ofInt IntKind.u16.bits IntKind.u16.max ^^^ BitVec.ofInt IntKind.u16.bits (a.toNat : Int)).toNat = (~~~a).toNat := by
    rw [not_nat _ _ _ (by decide)]
    have e2 : BitVec.ofNat IntKind.u16.bits a.toNat = a.toBitVec := BitVec.eq_of_toNat_eq ((BitVec.toNat_ofNat _ _).trans (Nat.mod_eq_of_lt a.toNat_lt))
    rw [e2]
    rfl
  have : wk .u16 (((~~~a).toNat : Nat) : Int) = ((~~~a).toNat : Nat) := by
    have h1 := (~~~a).toNat_lt
    simp only [wk]; omega
  have hr : (Op.unary .xor (.int .u16 (a.toNat : Int))).run P w = .ok (.int .u16 (IntKind.u16.wrap ((BitVec.ofInt IntKind.u16.bits IntKind.u16.max ^^^ BitVec.ofInt IntKind.u16.bits (a.toNat : Int)).toNat))) w := rfl
  rw [h2, wk_eq, this] at hr
  simp only [Sem.run_bind, hr, Result.andThen_ok, Sem.run_pure]
/-- Out of an int. -/
def of16 (m : Int) : UInt16 := UInt16.ofNat (m % 65536).toNat
theorem of16_toNat (m : Int) : ((of16 m).toNat : Int) = m % 65536 := by simp only [of16, UInt16.toNat_ofNat']; omega
theorem of16_cast (a : UInt16) : of16 (a.toNat : Int) = a := by
  have h := a.toNat_lt
  rw [← UInt16.toNat_inj]; have := of16_toNat (a.toNat : Int); omega
theorem q16_conv {s t : TypeId} {x : Operand} {k' : IntKind} {m : Int} {ds : TypeDesc} (hs' : P.underlying s = some ds) (hu : P.underlying t = some (.int .u16)) (hx : ev L x = some (.int k' m)) : QOp P n R L (.convert s t x) (.int .u16 (of16 m).toNat) :=
  qop_eq (q_conv hs' hu hx) (by rw [of16_toNat]; rfl)
theorem q16_int {s t : TypeId} {x : Operand} {a : UInt16} {ds : TypeDesc} (hs' : P.underlying s = some ds) (hu : P.underlying t = some (.int .i64)) (hx : ev L x = some (.int .u16 a.toNat)) : QOp P n R L (.convert s t x) (.int .i64 a.toNat) :=
  qop_eq (q_conv hs' hu hx) (by have h := a.toNat_lt; rw [wk_i64 (by omega) (by omega)])


/-! ### UInt32 -/
theorem wk32 (m : Nat) : wk .u32 (m : Int) = (((UInt32.ofNat m).toNat : Nat) : Int) := by
  simp only [wk, UInt32.toNat_ofNat']
  omega
def sl32 (a : UInt32) (c : Nat) : UInt32 := UInt32.ofNat (a.toNat * 2 ^ min c 32)
def sr32 (a : UInt32) (c : Nat) : UInt32 := UInt32.ofNat (a.toNat / 2 ^ min c 32)
theorem q32_add {t t' : TypeId} {x y : Operand} {a b : UInt32} (hx : ev L x = some (.int .u32 a.toNat)) (hy : ev L y = some (.int .u32 b.toNat)) : QOp P n R L (.binOp .add t x y t') (.int .u32 (a + b).toNat) :=
  q_bin hx hy (by
    have : wk .u32 ((a.toNat : Int) + b.toNat) = ((a + b).toNat : Nat) := by simp only [wk, UInt32.toNat_add]; omega
    simp only [binV, arithI, this])
theorem q32_sub {t t' : TypeId} {x y : Operand} {a b : UInt32} (hx : ev L x = some (.int .u32 a.toNat)) (hy : ev L y = some (.int .u32 b.toNat)) : QOp P n R L (.binOp .sub t x y t') (.int .u32 (a - b).toNat) :=
  q_bin hx hy (by
    have h1 := a.toNat_lt; have h2 := b.toNat_lt
    have : wk .u32 ((a.toNat : Int) - b.toNat) = ((a - b).toNat : Nat) := by simp only [wk, UInt32.toNat_sub]; omega
    simp only [binV, arithI, this])
theorem q32_mul {t t' : TypeId} {x y : Operand} {a b : UInt32} (hx : ev L x = some (.int .u32 a.toNat)) (hy : ev L y = some (.int .u32 b.toNat)) : QOp P n R L (.binOp .mul t x y t') (.int .u32 (a * b).toNat) :=
  q_bin hx hy (by
    have : wk .u32 ((a.toNat : Int) * b.toNat) = ((a * b).toNat : Nat) := by simp only [wk, UInt32.toNat_mul]; rw [← Int.natCast_mul]; omega
    simp only [binV, arithI, this])
theorem q32_and {t t' : TypeId} {x y : Operand} {a b : UInt32} (hx : ev L x = some (.int .u32 a.toNat)) (hy : ev L y = some (.int .u32 b.toNat)) : QOp P n R L (.binOp .and t x y t') (.int .u32 (a &&& b).toNat) :=
  q_bin hx hy (by
    have h1 := (a &&& b).toNat_lt
    have h2 : (BitVec.ofInt IntKind.u32.bits (a.toNat : Int) &&& BitVec.ofInt IntKind.u32.bits (b.toNat : Int)).toNat = (a &&& b).toNat :=
      (and_nat _ _ _ a.toNat_lt b.toNat_lt).trans (UInt32.toNat_and a b).symm
    have : wk .u32 (((a &&& b).toNat : Nat) : Int) = ((a &&& b).toNat : Nat) := by simp only [wk]; omega
    simp only [binV, arithI, h2, this])
theorem q32_or {t t' : TypeId} {x y : Operand} {a b : UInt32} (hx : ev L x = some (.int .u32 a.toNat)) (hy : ev L y = some (.int .u32 b.toNat)) : QOp P n R L (.binOp .or t x y t') (.int .u32 (a ||| b).toNat) :=
  q_bin hx hy (by
    have h1 := (a ||| b).toNat_lt
    have h2 : (BitVec.ofInt IntKind.u32.bits (a.toNat : Int) ||| BitVec.ofInt IntKind.u32.bits (b.toNat : Int)).toNat = (a ||| b).toNat :=
      (or_nat _ _ _ a.toNat_lt b.toNat_lt).trans (UInt32.toNat_or a b).symm
    have : wk .u32 (((a ||| b).toNat : Nat) : Int) = ((a ||| b).toNat : Nat) := by simp only [wk]; omega
    simp only [binV, arithI, h2, this])
theorem q32_xor {t t' : TypeId} {x y : Operand} {a b : UInt32} (hx : ev L x = some (.int .u32 a.toNat)) (hy : ev L y = some (.int .u32 b.toNat)) : QOp P n R L (.binOp .xor t x y t') (.int .u32 (a ^^^ b).toNat) :=
  q_bin hx hy (by
    have h1 := (a ^^^ b).toNat_lt
    have h2 : (BitVec.ofInt IntKind.u32.bits (a.toNat : Int) ^^^ BitVec.ofInt IntKind.u32.bits (b.toNat : Int)).toNat = (a ^^^ b).toNat :=
      (xor_nat _ _ _ a.toNat_lt b.toNat_lt).trans (UInt32.toNat_xor a b).symm
    have : wk .u32 (((a ^^^ b).toNat : Nat) : Int) = ((a ^^^ b).toNat : Nat) := by simp only [wk]; omega
    simp only [binV, arithI, h2, this])
theorem q32_eql {t t' : TypeId} {x y : Operand} {a b : UInt32} (hx : ev L x = some (.int .u32 a.toNat)) (hy : ev L y = some (.int .u32 b.toNat)) : QOp P n R L (.binOp .eql t x y t') (.bool (decide (a = b))) :=
  q_bin hx hy (by
    have : ((a.toNat : Int) == b.toNat) = decide (a = b) := by
      rw [Bool.eq_iff_iff]; simp [← UInt32.toNat_inj]; omega
    simp only [binV, arithI, this])
theorem q32_neq {t t' : TypeId} {x y : Operand} {a b : UInt32} (hx : ev L x = some (.int .u32 a.toNat)) (hy : ev L y = some (.int .u32 b.toNat)) : QOp P n R L (.binOp .neq t x y t') (.bool (!decide (a = b))) :=
  q_bin hx hy (by
    have : ((a.toNat : Int) != b.toNat) = !decide (a = b) := by
      rw [Bool.eq_iff_iff]; simp [← UInt32.toNat_inj]; omega
    simp only [binV, arithI, this])
theorem q32_shl {t t' : TypeId} {x y : Operand} {a : UInt32} {k' : IntKind} {b : Int} (hx : ev L x = some (.int .u32 a.toNat)) (hy : ev L y = some (.int k' b)) (h0 : 0 ≤ b) (c : Nat) (hc : b.toNat = c) : QOp P n R L (.binOp .shl t x y t') (.int .u32 (sl32 a c).toNat) :=
  qop_eq (q_shl hx hy h0) (by
    subst hc
    have : ((a.toNat : Int) * 2 ^ min b.toNat IntKind.u32.bits) = ((a.toNat * 2 ^ min b.toNat 32 : Nat) : Int) := by simp [IntKind.bits]
    rw [this, wk32]; rfl)
theorem q32_shr {t t' : TypeId} {x y : Operand} {a : UInt32} {k' : IntKind} {b : Int} (hx : ev L x = some (.int .u32 a.toNat)) (hy : ev L y = some (.int k' b)) (h0 : 0 ≤ b) (c : Nat) (hc : b.toNat = c) : QOp P n R L (.binOp .shr t x y t') (.int .u32 (sr32 a c).toNat) :=
  qop_eq (q_shr hx hy h0) (by
    subst hc
    have h1 : ((a.toNat : Int).fdiv (2 ^ min b.toNat IntKind.u32.bits)) = ((a.toNat / 2 ^ min b.toNat 32 : Nat) : Int) := by
      rw [Int.fdiv_eq_ediv_of_nonneg _ (by exact Int.le_of_lt (Int.pow_pos (by decide)))]
      simp [IntKind.bits]
    have h2 : a.toNat / 2 ^ min b.toNat 32 < 4294967296 := Nat.lt_of_le_of_lt (Nat.div_le_self _ _) a.toNat_lt
    rw [h1]
    simp only [sr32, UInt32.toNat_ofNat']
    rw [Nat.mod_eq_of_lt h2])
theorem q32_not {t : TypeId} {x : Operand} {a : UInt32} (hx : ev L x = some (.int .u32 a.toNat)) : QOp P n R L (.unOp .xor t x) (.int .u32 (~~~a).toNat) := by
  intro d ty pos af g a' w hs _
  simp only [execOp, hs.eval hx]
  have h2 : (BitVec.ofInt IntKind.u32.bits IntKind.u32.max ^^^ BitVec.ofInt IntKind.u32.bits (a.toNat : Int)).toNat = (~~~a).toNat := by
    rw [not_nat _ _ _ (by decide)]
    have e2 : BitVec.ofNat IntKind.u32.bits a.toNat = a.toBitVec := BitVec.eq_of_toNat_eq ((BitVec.toNat_ofNat _ _).trans (Nat.mod_eq_of_lt a.toNat_lt))
    rw [e2]
    rfl
  have : wk .u32 (((~~~a).toNat : Nat) : Int) = ((~~~a).toNat : Nat) := by
    have h1 := (~~~a).toNat_lt
    simp only [wk]; omega
  have hr : (Op.unary .xor (.int .u32 (a.toNat : Int))).run P w = .ok (.int .u32 (IntKind.u32.wrap ((BitVec.ofInt IntKind.u32.bits IntKind.u32.max ^^^ BitVec.ofInt IntKind.u32.bits (a.toNat : Int)).toNat))) w := rfl
  rw [h2, wk_eq, this] at hr
  simp only [Sem.run_bind, hr, Result.andThen_ok, Sem.run_pure]
/-- Out of an int. -/
def of32 (m : Int) : UInt32 := UInt32.ofNat (m % 4294967296).toNat
theorem of32_toNat (m : Int) : ((of32 m).toNat : Int) = m % 4294967296 := by simp only [of32, UInt32.toNat_ofNat']; omega
theorem of32_cast (a : UInt32) : of32 (a.toNat : Int) = a := by
  have h := a.toNat_lt
  rw [← UInt32.toNat_inj]; have := of32_toNat (a.toNat : Int); omega
theorem q32_conv {s t : TypeId} {x : Operand} {k' : IntKind} {m : Int} {ds : TypeDesc} (hs' : P.underlying s = some ds) (hu : P.underlying t = some (.int .u32)) (hx : ev L x = some (.int k' m)) : QOp P n R L (.convert s t x) (.int .u32 (of32 m).toNat) :=
  qop_eq (q_conv hs' hu hx) (by rw [of32_toNat]; rfl)
theorem q32_int {s t : TypeId} {x : Operand} {a : UInt32} {ds : TypeDesc} (hs' : P.underlying s = some ds) (hu : P.underlying t = some (.int .i64)) (hx : ev L x = some (.int .u32 a.toNat)) : QOp P n R L (.convert s t x) (.int .i64 a.toNat) :=
  qop_eq (q_conv hs' hu hx) (by have h := a.toNat_lt; rw [wk_i64 (by omega) (by omega)])


/-! ### UInt64 -/
theorem wk64 (m : Nat) : wk .u64 (m : Int) = (((UInt64.ofNat m).toNat : Nat) : Int) := by
  simp only [wk, UInt64.toNat_ofNat']
  omega
def sl64 (a : UInt64) (c : Nat) : UInt64 := UInt64.ofNat (a.toNat * 2 ^ min c 64)
def sr64 (a : UInt64) (c : Nat) : UInt64 := UInt64.ofNat (a.toNat / 2 ^ min c 64)
theorem q64_add {t t' : TypeId} {x y : Operand} {a b : UInt64} (hx : ev L x = some (.int .u64 a.toNat)) (hy : ev L y = some (.int .u64 b.toNat)) : QOp P n R L (.binOp .add t x y t') (.int .u64 (a + b).toNat) :=
  q_bin hx hy (by
    have : wk .u64 ((a.toNat : Int) + b.toNat) = ((a + b).toNat : Nat) := by simp only [wk, UInt64.toNat_add]; omega
    simp only [binV, arithI, this])
theorem q64_sub {t t' : TypeId} {x y : Operand} {a b : UInt64} (hx : ev L x = some (.int .u64 a.toNat)) (hy : ev L y = some (.int .u64 b.toNat)) : QOp P n R L (.binOp .sub t x y t') (.int .u64 (a - b).toNat) :=
  q_bin hx hy (by
    have h1 := a.toNat_lt; have h2 := b.toNat_lt
    have : wk .u64 ((a.toNat : Int) - b.toNat) = ((a - b).toNat : Nat) := by simp only [wk, UInt64.toNat_sub]; omega
    simp only [binV, arithI, this])
theorem q64_mul {t t' : TypeId} {x y : Operand} {a b : UInt64} (hx : ev L x = some (.int .u64 a.toNat)) (hy : ev L y = some (.int .u64 b.toNat)) : QOp P n R L (.binOp .mul t x y t') (.int .u64 (a * b).toNat) :=
  q_bin hx hy (by
    have : wk .u64 ((a.toNat : Int) * b.toNat) = ((a * b).toNat : Nat) := by simp only [wk, UInt64.toNat_mul]; rw [← Int.natCast_mul]; omega
    simp only [binV, arithI, this])
theorem q64_and {t t' : TypeId} {x y : Operand} {a b : UInt64} (hx : ev L x = some (.int .u64 a.toNat)) (hy : ev L y = some (.int .u64 b.toNat)) : QOp P n R L (.binOp .and t x y t') (.int .u64 (a &&& b).toNat) :=
  q_bin hx hy (by
    have h1 := (a &&& b).toNat_lt
    have h2 : (BitVec.ofInt IntKind.u64.bits (a.toNat : Int) &&& BitVec.ofInt IntKind.u64.bits (b.toNat : Int)).toNat = (a &&& b).toNat :=
      (and_nat _ _ _ a.toNat_lt b.toNat_lt).trans (UInt64.toNat_and a b).symm
    have : wk .u64 (((a &&& b).toNat : Nat) : Int) = ((a &&& b).toNat : Nat) := by simp only [wk]; omega
    simp only [binV, arithI, h2, this])
theorem q64_or {t t' : TypeId} {x y : Operand} {a b : UInt64} (hx : ev L x = some (.int .u64 a.toNat)) (hy : ev L y = some (.int .u64 b.toNat)) : QOp P n R L (.binOp .or t x y t') (.int .u64 (a ||| b).toNat) :=
  q_bin hx hy (by
    have h1 := (a ||| b).toNat_lt
    have h2 : (BitVec.ofInt IntKind.u64.bits (a.toNat : Int) ||| BitVec.ofInt IntKind.u64.bits (b.toNat : Int)).toNat = (a ||| b).toNat :=
      (or_nat _ _ _ a.toNat_lt b.toNat_lt).trans (UInt64.toNat_or a b).symm
    have : wk .u64 (((a ||| b).toNat : Nat) : Int) = ((a ||| b).toNat : Nat) := by simp only [wk]; omega
    simp only [binV, arithI, h2, this])
theorem q64_xor {t t' : TypeId} {x y : Operand} {a b : UInt64} (hx : ev L x = some (.int .u64 a.toNat)) (hy : ev L y = some (.int .u64 b.toNat)) : QOp P n R L (.binOp .xor t x y t') (.int .u64 (a ^^^ b).toNat) :=
  q_bin hx hy (by
    have h1 := (a ^^^ b).toNat_lt
    have h2 : (BitVec.ofInt IntKind.u64.bits (a.toNat : Int) ^^^ BitVec.ofInt IntKind.u64.bits (b.toNat : Int)).toNat = (a ^^^ b).toNat :=
      (xor_nat _ _ _ a.toNat_lt b.toNat_lt).trans (UInt64.toNat_xor a b).symm
    have : wk .u64 (((a ^^^ b).toNat : Nat) : Int) = ((a ^^^ b).toNat : Nat) := by simp only [wk]; omega
    simp only [binV, arithI, h2, this])
theorem q64_eql {t t' : TypeId} {x y : Operand} {a b : UInt64} (hx : ev L x = some (.int .u64 a.toNat)) (hy : ev L y = some (.int .u64 b.toNat)) : QOp P n R L (.binOp .eql t x y t') (.bool (decide (a = b))) :=
  q_bin hx hy (by
    have : ((a.toNat : Int) == b.toNat) = decide (a = b) := by
      rw [Bool.eq_iff_iff]; simp [← UInt64.toNat_inj]; omega
    simp only [binV, arithI, this])
theorem q64_neq {t t' : TypeId} {x y : Operand} {a b : UInt64} (hx : ev L x = some (.int .u64 a.toNat)) (hy : ev L y = some (.int .u64 b.toNat)) : QOp P n R L (.binOp .neq t x y t') (.bool (!decide (a = b))) :=
  q_bin hx hy (by
    have : ((a.toNat : Int) != b.toNat) = !decide (a = b) := by
      rw [Bool.eq_iff_iff]; simp [← UInt64.toNat_inj]; omega
    simp only [binV, arithI, this])
theorem q64_shl {t t' : TypeId} {x y : Operand} {a : UInt64} {k' : IntKind} {b : Int} (hx : ev L x = some (.int .u64 a.toNat)) (hy : ev L y = some (.int k' b)) (h0 : 0 ≤ b) (c : Nat) (hc : b.toNat = c) : QOp P n R L (.binOp .shl t x y t') (.int .u64 (sl64 a c).toNat) :=
  qop_eq (q_shl hx hy h0) (by
    subst hc
    have : ((a.toNat : Int) * 2 ^ min b.toNat IntKind.u64.bits) = ((a.toNat * 2 ^ min b.toNat 64 : Nat) : Int) := by simp [IntKind.bits]
    rw [this, wk64]; rfl)
theorem q64_shr {t t' : TypeId} {x y : Operand} {a : UInt64} {k' : IntKind} {b : Int} (hx : ev L x = some (.int .u64 a.toNat)) (hy : ev L y = some (.int k' b)) (h0 : 0 ≤ b) (c : Nat) (hc : b.toNat = c) : QOp P n R L (.binOp .shr t x y t') (.int .u64 (sr64 a c).toNat) :=
  qop_eq (q_shr hx hy h0) (by
    subst hc
    have h1 : ((a.toNat : Int).fdiv (2 ^ min b.toNat IntKind.u64.bits)) = ((a.toNat / 2 ^ min b.toNat 64 : Nat) : Int) := by
      rw [Int.fdiv_eq_ediv_of_nonneg _ (by exact Int.le_of_lt (Int.pow_pos (by decide)))]
      simp [IntKind.bits]
    have h2 : a.toNat / 2 ^ min b.toNat 64 < 18446744073709551616 := Nat.lt_of_le_of_lt (Nat.div_le_self _ _) a.toNat_lt
    rw [h1]
    simp only [sr64, UInt64.toNat_ofNat']
    rw [Nat.mod_eq_of_lt h2])
theorem q64_not {t : TypeId} {x : Operand} {a : UInt64} (hx : ev L x = some (.int .u64 a.toNat)) : QOp P n R L (.unOp .xor t x) (.int .u64 (~~~a).toNat) := by
  intro d ty pos af g a' w hs _
  simp only [execOp, hs.eval hx]
  have h2 : (BitVec.ofInt IntKind.u64.bits IntKind.u64.max ^^^ BitVec.ofInt IntKind.u64.bits (a.toNat : Int)).toNat = (~~~a).toNat := by
    rw [not_nat _ _ _ (by decide)]
    have e2 : BitVec.ofNat IntKind.u64.bits a.toNat = a.toBitVec := BitVec.eq_of_toNat_eq ((BitVec.toNat_ofNat _ _).trans (Nat.mod_eq_of_lt a.toNat_lt))
    rw [e2]
    rfl
  have : wk .u64 (((~~~a).toNat : Nat) : Int) = ((~~~a).toNat : Nat) := by
    have h1 := (~~~a).toNat_lt
    simp only [wk]; omega
  have hr : (Op.unary .xor (.int .u64 (a.toNat : Int))).run P w = .ok (.int .u64 (IntKind.u64.wrap ((BitVec.ofInt IntKind.u64.bits IntKind.u64.max ^^^ BitVec.ofInt IntKind.u64.bits (a.toNat : Int)).toNat))) w := rfl
  rw [h2, wk_eq, this] at hr
  simp only [Sem.run_bind, hr, Result.andThen_ok, Sem.run_pure]
/-- Out of an int. -/
def of64 (m : Int) : UInt64 := UInt64.ofNat (m % 18446744073709551616).toNat
theorem of64_toNat (m : Int) : ((of64 m).toNat : Int) = m % 18446744073709551616 := by simp only [of64, UInt64.toNat_ofNat']; omega
theorem of64_cast (a : UInt64) : of64 (a.toNat : Int) = a := by
  have h := a.toNat_lt
  rw [← UInt64.toNat_inj]; have := of64_toNat (a.toNat : Int); omega
theorem q64_conv {s t : TypeId} {x : Operand} {k' : IntKind} {m : Int} {ds : TypeDesc} (hs' : P.underlying s = some ds) (hu : P.underlying t = some (.int .u64)) (hx : ev L x = some (.int k' m)) : QOp P n R L (.convert s t x) (.int .u64 (of64 m).toNat) :=
  qop_eq (q_conv hs' hu hx) (by rw [of64_toNat]; rfl)
theorem q64_int {s t : TypeId} {x : Operand} {a : UInt64} {ds : TypeDesc} (hs' : P.underlying s = some ds) (hu : P.underlying t = some (.int .i64)) (hx : ev L x = some (.int .u64 a.toNat)) : QOp P n R L (.convert s t x) (.int .i64 (wk .i64 a.toNat)) :=
  q_conv hs' hu hx


end
end Go.PL
