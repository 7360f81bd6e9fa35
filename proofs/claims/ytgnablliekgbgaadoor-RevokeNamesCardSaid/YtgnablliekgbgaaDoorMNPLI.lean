import Derived.Test.YtgnablliekgbgaaDoorMNPLO
import Derived.Laws.Small
import Derived.ChangeKeysEq
import Derived.Laws.StructEq
import Derived.Laws.OwnMore
import Derived.Laws.Slices
import Derived.Laws.Tables
import Derived.Great.BuildSlice
import Derived.Lib.AppendStr
import Derived.Laws.IdiomCopy
import Derived.RangeFuncSeq
import Derived.RangeFuncCalls
import Derived.RangeFuncLeaves
import Derived.RangeFuncKeeps
import Derived.TacticsIn
set_option linter.unusedSimpArgs false
set_option linter.unusedVariables false
/- Unsigned numbers by Lean's own types: what the operations give. -/
namespace Go.PL
open Go Go.RowKit
section
variable {P : Program} {n : Cx} {R : World → Prop} {L : Slots} {Q : Exit → Act → World → Prop}
theorem q_bin {op : BinOp} {t t' : TypeId} {x y : Operand} {u v r : Value} (hx : ev L x = some u) (hy : ev L y = some v) (h : binV op u v = some r) : QOp P n R L (.binOp op t x y t') r :=
  q_pure (by simp only [pureOp, hx, hy]; exact h)
theorem qop_eq {op : Op} {u v : Value} (h : QOp P n R L op u) (e : u = v) : QOp P n R L op v := e ▸ h
theorem q_beq {t t' : TypeId} {x y : Operand} {a b : Bool} (hu : P.underlying t = some .bool) (hx : ev L x = some (.bool a)) (hy : ev L y = some (.bool b)) : QOp P n R L (.binOp .eql t x y t') (.bool (a == b)) := by
  intro d ty pos af g a' w hs _
  simp only [execOp, hs.eval hx, hs.eval hy]
  simp [eqGuard, run_eql_bool w t a b hu, pure]
theorem q_bne {t t' : TypeId} {x y : Operand} {a b : Bool} (hu : P.underlying t = some .bool) (hx : ev L x = some (.bool a)) (hy : ev L y = some (.bool b)) : QOp P n R L (.binOp .neq t x y t') (.bool (!(a == b))) := by
  intro d ty pos af g a' w hs _
  simp only [execOp, hs.eval hx, hs.eval hy]
  simp [eqGuard, run_neq_bool w t a b hu, pure]
theorem q_shl {t t' : TypeId} {x y : Operand} {k k' : IntKind} {a b : Int} (hx : ev L x = some (.int k a)) (hy : ev L y = some (.int k' b)) (h0 : 0 ≤ b) : QOp P n R L (.binOp .shl t x y t') (.int k (wk k (a * 2 ^ (min b.toNat k.bits)))) := by
  intro d ty pos af g a' w hs _
  simp only [execOp, hs.eval hx, hs.eval hy]
  have : ¬ b < 0 := by omega
  simp [eqGuard, binOp, Op.shift, this, wk_eq, pure]
theorem q_shr {t t' : TypeId} {x y : Operand} {k k' : IntKind} {a b : Int} (hx : ev L x = some (.int k a)) (hy : ev L y = some (.int k' b)) (h0 : 0 ≤ b) : QOp P n R L (.binOp .shr t x y t') (.int k (a.fdiv (2 ^ (min b.toNat k.bits)))) := by
  intro d ty pos af g a' w hs _
  simp only [execOp, hs.eval hx, hs.eval hy]
  have : ¬ b < 0 := by omega
  simp [eqGuard, binOp, Op.shift, this, wk_eq, pure]
theorem q_quo {t t' : TypeId} {x y : Operand} {k : IntKind} {a b : Int} (hx : ev L x = some (.int k a)) (hy : ev L y = some (.int k b)) (h0 : b ≠ 0) : QOp P n R L (.binOp .quo t x y t') (.int k (wk k (a.tdiv b))) := by
  intro d ty pos af g a' w hs _
  simp only [execOp, hs.eval hx, hs.eval hy]
  simp [eqGuard, binOp, Op.intDiv, h0, wk_eq, pure]
theorem q_rem {t t' : TypeId} {x y : Operand} {k : IntKind} {a b : Int} (hx : ev L x = some (.int k a)) (hy : ev L y = some (.int k b)) (h0 : b ≠ 0) : QOp P n R L (.binOp .rem t x y t') (.int k (a.tmod b)) := by
  intro d ty pos af g a' w hs _
  simp only [execOp, hs.eval hx, hs.eval hy]
  simp [eqGuard, binOp, Op.intDiv, h0, wk_eq, pure]
theorem wk_i64 {m : Int} (h0 : -9223372036854775808 ≤ m) (h1 : m ≤ 9223372036854775807) : wk .i64 m = m := by simp only [wk]; omega
theorem ofInt_natCast (w m : Nat) : BitVec.ofInt w (m : Int) = BitVec.ofNat w m := by simp
theorem and_nat (w a b : Nat) (ha : a < 2 ^ w) (hb : b < 2 ^ w) : (BitVec.ofInt w (a : Int) &&& BitVec.ofInt w (b : Int)).toNat = a &&& b := by
  rw [ofInt_natCast, ofInt_natCast, BitVec.toNat_and, BitVec.toNat_ofNat, BitVec.toNat_ofNat, Nat.mod_eq_of_lt ha, Nat.mod_eq_of_lt hb]
theorem or_nat (w a b : Nat) (ha : a < 2 ^ w) (hb : b < 2 ^ w) : (BitVec.ofInt w (a : Int) ||| BitVec.ofInt w (b : Int)).toNat = a ||| b := by
  rw [ofInt_natCast, ofInt_natCast, BitVec.toNat_or, BitVec.toNat_ofNat, BitVec.toNat_ofNat, Nat.mod_eq_of_lt ha, Nat.mod_eq_of_lt hb]
theorem xor_nat (w a b : Nat) (ha : a < 2 ^ w) (hb : b < 2 ^ w) : (BitVec.ofInt w (a : Int) ^^^ BitVec.ofInt w (b : Int)).toNat = a ^^^ b := by
  rw [ofInt_natCast, ofInt_natCast, BitVec.toNat_xor, BitVec.toNat_ofNat, BitVec.toNat_ofNat, Nat.mod_eq_of_lt ha, Nat.mod_eq_of_lt hb]
theorem not_nat (w a : Nat) (m : Int) (hm : BitVec.ofInt w m = BitVec.allOnes w) : (BitVec.ofInt w m ^^^ BitVec.ofInt w (a : Int)) = ~~~ BitVec.ofNat w a := by
  rw [hm, ofInt_natCast, BitVec.allOnes_xor]
theorem wk8 (m : Nat) : wk .u8 (m : Int) = (((UInt8.ofNat m).toNat : Nat) : Int) := by
  simp only [wk, UInt8.toNat_ofNat']
  omega
def sl8 (a : UInt8) (c : Nat) : UInt8 := UInt8.ofNat (a.toNat * 2 ^ min c 8)
def sr8 (a : UInt8) (c : Nat) : UInt8 := UInt8.ofNat (a.toNat / 2 ^ min c 8)
theorem q8_add {t t' : TypeId} {x y : Operand} {a b : UInt8} (hx : ev L x = some (.int .u8 a.toNat)) (hy : ev L y = some (.int .u8 b.toNat)) : QOp P n R L (.binOp .add t x y t') (.int .u8 (a + b).toNat) :=
  q_bin hx hy (by
    have : wk .u8 ((a.toNat : Int) + b.toNat) = ((a + b).toNat : Nat) := by simp only [wk, UInt8.toNat_add]; omega
    simp only [binV, arithI, this])
theorem q8_sub {t t' : TypeId} {x y : Operand} {a b : UInt8} (hx : ev L x = some (.int .u8 a.toNat)) (hy : ev L y = some (.int .u8 b.toNat)) : QOp P n R L (.binOp .sub t x y t') (.int .u8 (a - b).toNat) :=
  q_bin hx hy (by
    have h1 := a.toNat_lt; have h2 := b.toNat_lt
    have : wk .u8 ((a.toNat : Int) - b.toNat) = ((a - b).toNat : Nat) := by simp only [wk, UInt8.toNat_sub]; omega
    simp only [binV, arithI, this])
theorem q8_mul {t t' : TypeId} {x y : Operand} {a b : UInt8} (hx : ev L x = some (.int .u8 a.toNat)) (hy : ev L y = some (.int .u8 b.toNat)) : QOp P n R L (.binOp .mul t x y t') (.int .u8 (a * b).toNat) :=
  q_bin hx hy (by
    have : wk .u8 ((a.toNat : Int) * b.toNat) = ((a * b).toNat : Nat) := by simp only [wk, UInt8.toNat_mul]; rw [← Int.natCast_mul]; omega
    simp only [binV, arithI, this])
theorem q8_and {t t' : TypeId} {x y : Operand} {a b : UInt8} (hx : ev L x = some (.int .u8 a.toNat)) (hy : ev L y = some (.int .u8 b.toNat)) : QOp P n R L (.binOp .and t x y t') (.int .u8 (a &&& b).toNat) :=
  q_bin hx hy (by
    have h1 := (a &&& b).toNat_lt
    have h2 : (BitVec.ofInt IntKind.u8.bits (a.toNat : Int) &&& BitVec.ofInt IntKind.u8.bits (b.toNat : Int)).toNat = (a &&& b).toNat :=
      (and_nat _ _ _ a.toNat_lt b.toNat_lt).trans (UInt8.toNat_and a b).symm
    have : wk .u8 (((a &&& b).toNat : Nat) : Int) = ((a &&& b).toNat : Nat) := by simp only [wk]; omega
    simp only [binV, arithI, h2, this])
theorem q8_or {t t' : TypeId} {x y : Operand} {a b : UInt8} (hx : ev L x = some (.int .u8 a.toNat)) (hy : ev L y = some (.int .u8 b.toNat)) : QOp P n R L (.binOp .or t x y t') (.int .u8 (a ||| b).toNat) :=
  q_bin hx hy (by
    have h1 := (a ||| b).toNat_lt
    have h2 : (BitVec.ofInt IntKind.u8.bits (a.toNat : Int) ||| BitVec.ofInt IntKind.u8.bits (b.toNat : Int)).toNat = (a ||| b).toNat :=
      (or_nat _ _ _ a.toNat_lt b.toNat_lt).trans (UInt8.toNat_or a b).symm
    have : wk .u8 (((a ||| b).toNat : Nat) : Int) = ((a ||| b).toNat : Nat) := by simp only [wk]; omega
    simp only [binV, arithI, h2, this])
theorem q8_xor {t t' : TypeId} {x y : Operand} {a b : UInt8} (hx : ev L x = some (.int .u8 a.toNat)) (hy : ev L y = some (.int .u8 b.toNat)) : QOp P n R L (.binOp .xor t x y t') (.int .u8 (a ^^^ b).toNat) :=
  q_bin hx hy (by
    have h1 := (a ^^^ b).toNat_lt
    have h2 : (BitVec.ofInt IntKind.u8.bits (a.toNat : Int) ^^^ BitVec.ofInt IntKind.u8.bits (b.toNat : Int)).toNat = (a ^^^ b).toNat :=
      (xor_nat _ _ _ a.toNat_lt b.toNat_lt).trans (UInt8.toNat_xor a b).symm
    have : wk .u8 (((a ^^^ b).toNat : Nat) : Int) = ((a ^^^ b).toNat : Nat) := by simp only [wk]; omega
    simp only [binV, arithI, h2, this])
theorem q8_eql {t t' : TypeId} {x y : Operand} {a b : UInt8} (hx : ev L x = some (.int .u8 a.toNat)) (hy : ev L y = some (.int .u8 b.toNat)) : QOp P n R L (.binOp .eql t x y t') (.bool (decide (a = b))) :=
  q_bin hx hy (by
    have : ((a.toNat : Int) == b.toNat) = decide (a = b) := by
      rw [Bool.eq_iff_iff]; simp [← UInt8.toNat_inj]; omega
    simp only [binV, arithI, this])
theorem q8_neq {t t' : TypeId} {x y : Operand} {a b : UInt8} (hx : ev L x = some (.int .u8 a.toNat)) (hy : ev L y = some (.int .u8 b.toNat)) : QOp P n R L (.binOp .neq t x y t') (.bool (!decide (a = b))) :=
  q_bin hx hy (by
    have : ((a.toNat : Int) != b.toNat) = !decide (a = b) := by
      rw [Bool.eq_iff_iff]; simp [← UInt8.toNat_inj]; omega
    simp only [binV, arithI, this])
theorem q8_shl {t t' : TypeId} {x y : Operand} {a : UInt8} {k' : IntKind} {b : Int} (hx : ev L x = some (.int .u8 a.toNat)) (hy : ev L y = some (.int k' b)) (h0 : 0 ≤ b) (c : Nat) (hc : b.toNat = c) : QOp P n R L (.binOp .shl t x y t') (.int .u8 (sl8 a c).toNat) :=
  qop_eq (q_shl hx hy h0) (by
    subst hc
    have : ((a.toNat : Int) * 2 ^ min b.toNat IntKind.u8.bits) = ((a.toNat * 2 ^ min b.toNat 8 : Nat) : Int) := by simp [IntKind.bits]
    rw [this, wk8]; rfl)
theorem q8_shr {t t' : TypeId} {x y : Operand} {a : UInt8} {k' : IntKind} {b : Int} (hx : ev L x = some (.int .u8 a.toNat)) (hy : ev L y = some (.int k' b)) (h0 : 0 ≤ b) (c : Nat) (hc : b.toNat = c) : QOp P n R L (.binOp .shr t x y t') (.int .u8 (sr8 a c).toNat) :=
  qop_eq (q_shr hx hy h0) (by
    subst hc
    have h1 : ((a.toNat : Int).fdiv (2 ^ min b.toNat IntKind.u8.bits)) = ((a.toNat / 2 ^ min b.toNat 8 : Nat) : Int) := by
      rw [Int.fdiv_eq_ediv_of_nonneg _ (by exact Int.le_of_lt (Int.pow_pos zz19))]
      simp [IntKind.bits]
    have h2 : a.toNat / 2 ^ min b.toNat 8 < 256 := Nat.lt_of_le_of_lt (Nat.div_le_self _ _) a.toNat_lt
    rw [h1]
    simp only [sr8, UInt8.toNat_ofNat']
    rw [Nat.mod_eq_of_lt h2])
theorem q8_not {t : TypeId} {x : Operand} {a : UInt8} (hx : ev L x = some (.int .u8 a.toNat)) : QOp P n R L (.unOp .xor t x) (.int .u8 (~~~a).toNat) := by
  intro d ty pos af g a' w hs _
  simp only [execOp, hs.eval hx]
  have h2 : (BitVec.ofInt IntKind.u8.bits IntKind.u8.max ^^^ BitVec.ofInt IntKind.u8.bits (a.toNat : Int)).toNat = (~~~a).toNat := by
    rw [not_nat _ _ _ zz19]
    have e2 : BitVec.ofNat IntKind.u8.bits a.toNat = a.toBitVec := BitVec.eq_of_toNat_eq ((BitVec.toNat_ofNat _ _).trans (Nat.mod_eq_of_lt a.toNat_lt))
    rw [e2]
    rfl
  have : wk .u8 (((~~~a).toNat : Nat) : Int) = ((~~~a).toNat : Nat) := by
    have h1 := (~~~a).toNat_lt
    simp only [wk]; omega
  have hr : (Op.unary .xor (.int .u8 (a.toNat : Int))).run P w = .ok (.int .u8 (IntKind.u8.wrap ((BitVec.ofInt IntKind.u8.bits IntKind.u8.max ^^^ BitVec.ofInt IntKind.u8.bits (a.toNat : Int)).toNat))) w := rfl
  rw [h2, wk_eq, this] at hr
  simp only [Sem.run_bind, hr, Result.andThen_ok, Sem.run_pure]
def of8 (m : Int) : UInt8 := UInt8.ofNat (m % 256).toNat
theorem of8_toNat (m : Int) : ((of8 m).toNat : Int) = m % 256 := by simp only [of8, UInt8.toNat_ofNat']; omega
theorem of8_cast (a : UInt8) : of8 (a.toNat : Int) = a := by
  have h := a.toNat_lt
  rw [← UInt8.toNat_inj]; have := of8_toNat (a.toNat : Int); omega
theorem q8_conv {s t : TypeId} {x : Operand} {k' : IntKind} {m : Int} {ds : TypeDesc} (hs' : P.underlying s = some ds) (hu : P.underlying t = some (.int .u8)) (hx : ev L x = some (.int k' m)) : QOp P n R L (.convert s t x) (.int .u8 (of8 m).toNat) :=
  qop_eq (q_conv hs' hu hx) (by rw [of8_toNat]; rfl)
theorem q8_int {s t : TypeId} {x : Operand} {a : UInt8} {ds : TypeDesc} (hs' : P.underlying s = some ds) (hu : P.underlying t = some (.int .i64)) (hx : ev L x = some (.int .u8 a.toNat)) : QOp P n R L (.convert s t x) (.int .i64 a.toNat) :=
  qop_eq (q_conv hs' hu hx) (by have h := a.toNat_lt; rw [wk_i64 zz12 zz12])
theorem wk16 (m : Nat) : wk .u16 (m : Int) = (((UInt16.ofNat m).toNat : Nat) : Int) := by
  simp only [wk, UInt16.toNat_ofNat']
  omega
def sl16 (a : UInt16) (c : Nat) : UInt16 := UInt16.ofNat (a.toNat * 2 ^ min c 16)
def sr16 (a : UInt16) (c : Nat) : UInt16 := UInt16.ofNat (a.toNat / 2 ^ min c 16)
theorem q16_add {t t' : TypeId} {x y : Operand} {a b : UInt16} (hx : ev L x = some (.int .u16 a.toNat)) (hy : ev L y = some (.int .u16 b.toNat)) : QOp P n R L (.binOp .add t x y t') (.int .u16 (a + b).toNat) :=
  q_bin hx hy (by
    have : wk .u16 ((a.toNat : Int) + b.toNat) = ((a + b).toNat : Nat) := by simp only [wk, UInt16.toNat_add]; omega
    simp only [binV, arithI, this])
theorem q16_sub {t t' : TypeId} {x y : Operand} {a b : UInt16} (hx : ev L x = some (.int .u16 a.toNat)) (hy : ev L y = some (.int .u16 b.toNat)) : QOp P n R L (.binOp .sub t x y t') (.int .u16 (a - b).toNat) :=
  q_bin hx hy (by
    have h1 := a.toNat_lt; have h2 := b.toNat_lt
    have : wk .u16 ((a.toNat : Int) - b.toNat) = ((a - b).toNat : Nat) := by simp only [wk, UInt16.toNat_sub]; omega
    simp only [binV, arithI, this])
theorem q16_mul {t t' : TypeId} {x y : Operand} {a b : UInt16} (hx : ev L x = some (.int .u16 a.toNat)) (hy : ev L y = some (.int .u16 b.toNat)) : QOp P n R L (.binOp .mul t x y t') (.int .u16 (a * b).toNat) :=
  q_bin hx hy (by
    have : wk .u16 ((a.toNat : Int) * b.toNat) = ((a * b).toNat : Nat) := by simp only [wk, UInt16.toNat_mul]; rw [← Int.natCast_mul]; omega
    simp only [binV, arithI, this])
theorem q16_and {t t' : TypeId} {x y : Operand} {a b : UInt16} (hx : ev L x = some (.int .u16 a.toNat)) (hy : ev L y = some (.int .u16 b.toNat)) : QOp P n R L (.binOp .and t x y t') (.int .u16 (a &&& b).toNat) :=
  q_bin hx hy (by
    have h1 := (a &&& b).toNat_lt
    have h2 : (BitVec.ofInt IntKind.u16.bits (a.toNat : Int) &&& BitVec.ofInt IntKind.u16.bits (b.toNat : Int)).toNat = (a &&& b).toNat :=
      (and_nat _ _ _ a.toNat_lt b.toNat_lt).trans (UInt16.toNat_and a b).symm
    have : wk .u16 (((a &&& b).toNat : Nat) : Int) = ((a &&& b).toNat : Nat) := by simp only [wk]; omega
    simp only [binV, arithI, h2, this])
theorem q16_or {t t' : TypeId} {x y : Operand} {a b : UInt16} (hx : ev L x = some (.int .u16 a.toNat)) (hy : ev L y = some (.int .u16 b.toNat)) : QOp P n R L (.binOp .or t x y t') (.int .u16 (a ||| b).toNat) :=
  q_bin hx hy (by
    have h1 := (a ||| b).toNat_lt
    have h2 : (BitVec.ofInt IntKind.u16.bits (a.toNat : Int) ||| BitVec.ofInt IntKind.u16.bits (b.toNat : Int)).toNat = (a ||| b).toNat :=
      (or_nat _ _ _ a.toNat_lt b.toNat_lt).trans (UInt16.toNat_or a b).symm
    have : wk .u16 (((a ||| b).toNat : Nat) : Int) = ((a ||| b).toNat : Nat) := by simp only [wk]; omega
    simp only [binV, arithI, h2, this])
theorem q16_xor {t t' : TypeId} {x y : Operand} {a b : UInt16} (hx : ev L x = some (.int .u16 a.toNat)) (hy : ev L y = some (.int .u16 b.toNat)) : QOp P n R L (.binOp .xor t x y t') (.int .u16 (a ^^^ b).toNat) :=
  q_bin hx hy (by
    have h1 := (a ^^^ b).toNat_lt
    have h2 : (BitVec.ofInt IntKind.u16.bits (a.toNat : Int) ^^^ BitVec.ofInt IntKind.u16.bits (b.toNat : Int)).toNat = (a ^^^ b).toNat :=
      (xor_nat _ _ _ a.toNat_lt b.toNat_lt).trans (UInt16.toNat_xor a b).symm
    have : wk .u16 (((a ^^^ b).toNat : Nat) : Int) = ((a ^^^ b).toNat : Nat) := by simp only [wk]; omega
    simp only [binV, arithI, h2, this])
theorem q16_eql {t t' : TypeId} {x y : Operand} {a b : UInt16} (hx : ev L x = some (.int .u16 a.toNat)) (hy : ev L y = some (.int .u16 b.toNat)) : QOp P n R L (.binOp .eql t x y t') (.bool (decide (a = b))) :=
  q_bin hx hy (by
    have : ((a.toNat : Int) == b.toNat) = decide (a = b) := by
      rw [Bool.eq_iff_iff]; simp [← UInt16.toNat_inj]; omega
    simp only [binV, arithI, this])
theorem q16_neq {t t' : TypeId} {x y : Operand} {a b : UInt16} (hx : ev L x = some (.int .u16 a.toNat)) (hy : ev L y = some (.int .u16 b.toNat)) : QOp P n R L (.binOp .neq t x y t') (.bool (!decide (a = b))) :=
  q_bin hx hy (by
    have : ((a.toNat : Int) != b.toNat) = !decide (a = b) := by
      rw [Bool.eq_iff_iff]; simp [← UInt16.toNat_inj]; omega
    simp only [binV, arithI, this])
theorem q16_shl {t t' : TypeId} {x y : Operand} {a : UInt16} {k' : IntKind} {b : Int} (hx : ev L x = some (.int .u16 a.toNat)) (hy : ev L y = some (.int k' b)) (h0 : 0 ≤ b) (c : Nat) (hc : b.toNat = c) : QOp P n R L (.binOp .shl t x y t') (.int .u16 (sl16 a c).toNat) :=
  qop_eq (q_shl hx hy h0) (by
    subst hc
    have : ((a.toNat : Int) * 2 ^ min b.toNat IntKind.u16.bits) = ((a.toNat * 2 ^ min b.toNat 16 : Nat) : Int) := by simp [IntKind.bits]
    rw [this, wk16]; rfl)
theorem q16_shr {t t' : TypeId} {x y : Operand} {a : UInt16} {k' : IntKind} {b : Int} (hx : ev L x = some (.int .u16 a.toNat)) (hy : ev L y = some (.int k' b)) (h0 : 0 ≤ b) (c : Nat) (hc : b.toNat = c) : QOp P n R L (.binOp .shr t x y t') (.int .u16 (sr16 a c).toNat) :=
  qop_eq (q_shr hx hy h0) (by
    subst hc
    have h1 : ((a.toNat : Int).fdiv (2 ^ min b.toNat IntKind.u16.bits)) = ((a.toNat / 2 ^ min b.toNat 16 : Nat) : Int) := by
      rw [Int.fdiv_eq_ediv_of_nonneg _ (by exact Int.le_of_lt (Int.pow_pos zz19))]
      simp [IntKind.bits]
    have h2 : a.toNat / 2 ^ min b.toNat 16 < 65536 := Nat.lt_of_le_of_lt (Nat.div_le_self _ _) a.toNat_lt
    rw [h1]
    simp only [sr16, UInt16.toNat_ofNat']
    rw [Nat.mod_eq_of_lt h2])
theorem q16_not {t : TypeId} {x : Operand} {a : UInt16} (hx : ev L x = some (.int .u16 a.toNat)) : QOp P n R L (.unOp .xor t x) (.int .u16 (~~~a).toNat) := by
  intro d ty pos af g a' w hs _
  simp only [execOp, hs.eval hx]
  have h2 : (BitVec.ofInt IntKind.u16.bits IntKind.u16.max ^^^ BitVec.ofInt IntKind.u16.bits (a.toNat : Int)).toNat = (~~~a).toNat := by
    rw [not_nat _ _ _ zz19]
    have e2 : BitVec.ofNat IntKind.u16.bits a.toNat = a.toBitVec := BitVec.eq_of_toNat_eq ((BitVec.toNat_ofNat _ _).trans (Nat.mod_eq_of_lt a.toNat_lt))
    rw [e2]
    rfl
  have : wk .u16 (((~~~a).toNat : Nat) : Int) = ((~~~a).toNat : Nat) := by
    have h1 := (~~~a).toNat_lt
    simp only [wk]; omega
  have hr : (Op.unary .xor (.int .u16 (a.toNat : Int))).run P w = .ok (.int .u16 (IntKind.u16.wrap ((BitVec.ofInt IntKind.u16.bits IntKind.u16.max ^^^ BitVec.ofInt IntKind.u16.bits (a.toNat : Int)).toNat))) w := rfl
  rw [h2, wk_eq, this] at hr
  simp only [Sem.run_bind, hr, Result.andThen_ok, Sem.run_pure]
def of16 (m : Int) : UInt16 := UInt16.ofNat (m % 65536).toNat
theorem of16_toNat (m : Int) : ((of16 m).toNat : Int) = m % 65536 := by simp only [of16, UInt16.toNat_ofNat']; omega
theorem of16_cast (a : UInt16) : of16 (a.toNat : Int) = a := by
  have h := a.toNat_lt
  rw [← UInt16.toNat_inj]; have := of16_toNat (a.toNat : Int); omega
theorem q16_conv {s t : TypeId} {x : Operand} {k' : IntKind} {m : Int} {ds : TypeDesc} (hs' : P.underlying s = some ds) (hu : P.underlying t = some (.int .u16)) (hx : ev L x = some (.int k' m)) : QOp P n R L (.convert s t x) (.int .u16 (of16 m).toNat) :=
  qop_eq (q_conv hs' hu hx) (by rw [of16_toNat]; rfl)
theorem q16_int {s t : TypeId} {x : Operand} {a : UInt16} {ds : TypeDesc} (hs' : P.underlying s = some ds) (hu : P.underlying t = some (.int .i64)) (hx : ev L x = some (.int .u16 a.toNat)) : QOp P n R L (.convert s t x) (.int .i64 a.toNat) :=
  qop_eq (q_conv hs' hu hx) (by have h := a.toNat_lt; rw [wk_i64 zz12 zz12])
theorem wk32 (m : Nat) : wk .u32 (m : Int) = (((UInt32.ofNat m).toNat : Nat) : Int) := by
  simp only [wk, UInt32.toNat_ofNat']
  omega
def sl32 (a : UInt32) (c : Nat) : UInt32 := UInt32.ofNat (a.toNat * 2 ^ min c 32)
def sr32 (a : UInt32) (c : Nat) : UInt32 := UInt32.ofNat (a.toNat / 2 ^ min c 32)
theorem q32_add {t t' : TypeId} {x y : Operand} {a b : UInt32} (hx : ev L x = some (.int .u32 a.toNat)) (hy : ev L y = some (.int .u32 b.toNat)) : QOp P n R L (.binOp .add t x y t') (.int .u32 (a + b).toNat) :=
  q_bin hx hy (by
    have : wk .u32 ((a.toNat : Int) + b.toNat) = ((a + b).toNat : Nat) := by simp only [wk, UInt32.toNat_add]; omega
    simp only [binV, arithI, this])
theorem q32_sub {t t' : TypeId} {x y : Operand} {a b : UInt32} (hx : ev L x = some (.int .u32 a.toNat)) (hy : ev L y = some (.int .u32 b.toNat)) : QOp P n R L (.binOp .sub t x y t') (.int .u32 (a - b).toNat) :=
  q_bin hx hy (by
    have h1 := a.toNat_lt; have h2 := b.toNat_lt
    have : wk .u32 ((a.toNat : Int) - b.toNat) = ((a - b).toNat : Nat) := by simp only [wk, UInt32.toNat_sub]; omega
    simp only [binV, arithI, this])
theorem q32_mul {t t' : TypeId} {x y : Operand} {a b : UInt32} (hx : ev L x = some (.int .u32 a.toNat)) (hy : ev L y = some (.int .u32 b.toNat)) : QOp P n R L (.binOp .mul t x y t') (.int .u32 (a * b).toNat) :=
  q_bin hx hy (by
    have : wk .u32 ((a.toNat : Int) * b.toNat) = ((a * b).toNat : Nat) := by simp only [wk, UInt32.toNat_mul]; rw [← Int.natCast_mul]; omega
    simp only [binV, arithI, this])
theorem q32_and {t t' : TypeId} {x y : Operand} {a b : UInt32} (hx : ev L x = some (.int .u32 a.toNat)) (hy : ev L y = some (.int .u32 b.toNat)) : QOp P n R L (.binOp .and t x y t') (.int .u32 (a &&& b).toNat) :=
  q_bin hx hy (by
    have h1 := (a &&& b).toNat_lt
    have h2 : (BitVec.ofInt IntKind.u32.bits (a.toNat : Int) &&& BitVec.ofInt IntKind.u32.bits (b.toNat : Int)).toNat = (a &&& b).toNat :=
      (and_nat _ _ _ a.toNat_lt b.toNat_lt).trans (UInt32.toNat_and a b).symm
    have : wk .u32 (((a &&& b).toNat : Nat) : Int) = ((a &&& b).toNat : Nat) := by simp only [wk]; omega
    simp only [binV, arithI, h2, this])
theorem q32_or {t t' : TypeId} {x y : Operand} {a b : UInt32} (hx : ev L x = some (.int .u32 a.toNat)) (hy : ev L y = some (.int .u32 b.toNat)) : QOp P n R L (.binOp .or t x y t') (.int .u32 (a ||| b).toNat) :=
  q_bin hx hy (by
    have h1 := (a ||| b).toNat_lt
    have h2 : (BitVec.ofInt IntKind.u32.bits (a.toNat : Int) ||| BitVec.ofInt IntKind.u32.bits (b.toNat : Int)).toNat = (a ||| b).toNat :=
      (or_nat _ _ _ a.toNat_lt b.toNat_lt).trans (UInt32.toNat_or a b).symm
    have : wk .u32 (((a ||| b).toNat : Nat) : Int) = ((a ||| b).toNat : Nat) := by simp only [wk]; omega
    simp only [binV, arithI, h2, this])
theorem q32_xor {t t' : TypeId} {x y : Operand} {a b : UInt32} (hx : ev L x = some (.int .u32 a.toNat)) (hy : ev L y = some (.int .u32 b.toNat)) : QOp P n R L (.binOp .xor t x y t') (.int .u32 (a ^^^ b).toNat) :=
  q_bin hx hy (by
    have h1 := (a ^^^ b).toNat_lt
    have h2 : (BitVec.ofInt IntKind.u32.bits (a.toNat : Int) ^^^ BitVec.ofInt IntKind.u32.bits (b.toNat : Int)).toNat = (a ^^^ b).toNat :=
      (xor_nat _ _ _ a.toNat_lt b.toNat_lt).trans (UInt32.toNat_xor a b).symm
    have : wk .u32 (((a ^^^ b).toNat : Nat) : Int) = ((a ^^^ b).toNat : Nat) := by simp only [wk]; omega
    simp only [binV, arithI, h2, this])
theorem q32_eql {t t' : TypeId} {x y : Operand} {a b : UInt32} (hx : ev L x = some (.int .u32 a.toNat)) (hy : ev L y = some (.int .u32 b.toNat)) : QOp P n R L (.binOp .eql t x y t') (.bool (decide (a = b))) :=
  q_bin hx hy (by
    have : ((a.toNat : Int) == b.toNat) = decide (a = b) := by
      rw [Bool.eq_iff_iff]; simp [← UInt32.toNat_inj]; omega
    simp only [binV, arithI, this])
theorem q32_neq {t t' : TypeId} {x y : Operand} {a b : UInt32} (hx : ev L x = some (.int .u32 a.toNat)) (hy : ev L y = some (.int .u32 b.toNat)) : QOp P n R L (.binOp .neq t x y t') (.bool (!decide (a = b))) :=
  q_bin hx hy (by
    have : ((a.toNat : Int) != b.toNat) = !decide (a = b) := by
      rw [Bool.eq_iff_iff]; simp [← UInt32.toNat_inj]; omega
    simp only [binV, arithI, this])
theorem q32_shl {t t' : TypeId} {x y : Operand} {a : UInt32} {k' : IntKind} {b : Int} (hx : ev L x = some (.int .u32 a.toNat)) (hy : ev L y = some (.int k' b)) (h0 : 0 ≤ b) (c : Nat) (hc : b.toNat = c) : QOp P n R L (.binOp .shl t x y t') (.int .u32 (sl32 a c).toNat) :=
  qop_eq (q_shl hx hy h0) (by
    subst hc
    have : ((a.toNat : Int) * 2 ^ min b.toNat IntKind.u32.bits) = ((a.toNat * 2 ^ min b.toNat 32 : Nat) : Int) := by simp [IntKind.bits]
    rw [this, wk32]; rfl)
theorem q32_shr {t t' : TypeId} {x y : Operand} {a : UInt32} {k' : IntKind} {b : Int} (hx : ev L x = some (.int .u32 a.toNat)) (hy : ev L y = some (.int k' b)) (h0 : 0 ≤ b) (c : Nat) (hc : b.toNat = c) : QOp P n R L (.binOp .shr t x y t') (.int .u32 (sr32 a c).toNat) :=
  qop_eq (q_shr hx hy h0) (by
    subst hc
    have h1 : ((a.toNat : Int).fdiv (2 ^ min b.toNat IntKind.u32.bits)) = ((a.toNat / 2 ^ min b.toNat 32 : Nat) : Int) := by
      rw [Int.fdiv_eq_ediv_of_nonneg _ (by exact Int.le_of_lt (Int.pow_pos zz19))]
      simp [IntKind.bits]
    have h2 : a.toNat / 2 ^ min b.toNat 32 < 4294967296 := Nat.lt_of_le_of_lt (Nat.div_le_self _ _) a.toNat_lt
    rw [h1]
    simp only [sr32, UInt32.toNat_ofNat']
    rw [Nat.mod_eq_of_lt h2])
theorem q32_not {t : TypeId} {x : Operand} {a : UInt32} (hx : ev L x = some (.int .u32 a.toNat)) : QOp P n R L (.unOp .xor t x) (.int .u32 (~~~a).toNat) := by
  intro d ty pos af g a' w hs _
  simp only [execOp, hs.eval hx]
  have h2 : (BitVec.ofInt IntKind.u32.bits IntKind.u32.max ^^^ BitVec.ofInt IntKind.u32.bits (a.toNat : Int)).toNat = (~~~a).toNat := by
    rw [not_nat _ _ _ zz19]
    have e2 : BitVec.ofNat IntKind.u32.bits a.toNat = a.toBitVec := BitVec.eq_of_toNat_eq ((BitVec.toNat_ofNat _ _).trans (Nat.mod_eq_of_lt a.toNat_lt))
    rw [e2]
    rfl
  have : wk .u32 (((~~~a).toNat : Nat) : Int) = ((~~~a).toNat : Nat) := by
    have h1 := (~~~a).toNat_lt
    simp only [wk]; omega
  have hr : (Op.unary .xor (.int .u32 (a.toNat : Int))).run P w = .ok (.int .u32 (IntKind.u32.wrap ((BitVec.ofInt IntKind.u32.bits IntKind.u32.max ^^^ BitVec.ofInt IntKind.u32.bits (a.toNat : Int)).toNat))) w := rfl
  rw [h2, wk_eq, this] at hr
  simp only [Sem.run_bind, hr, Result.andThen_ok, Sem.run_pure]
def of32 (m : Int) : UInt32 := UInt32.ofNat (m % 4294967296).toNat
theorem of32_toNat (m : Int) : ((of32 m).toNat : Int) = m % 4294967296 := by simp only [of32, UInt32.toNat_ofNat']; omega
theorem of32_cast (a : UInt32) : of32 (a.toNat : Int) = a := by
  have h := a.toNat_lt
  rw [← UInt32.toNat_inj]; have := of32_toNat (a.toNat : Int); omega
theorem q32_conv {s t : TypeId} {x : Operand} {k' : IntKind} {m : Int} {ds : TypeDesc} (hs' : P.underlying s = some ds) (hu : P.underlying t = some (.int .u32)) (hx : ev L x = some (.int k' m)) : QOp P n R L (.convert s t x) (.int .u32 (of32 m).toNat) :=
  qop_eq (q_conv hs' hu hx) (by rw [of32_toNat]; rfl)
theorem q32_int {s t : TypeId} {x : Operand} {a : UInt32} {ds : TypeDesc} (hs' : P.underlying s = some ds) (hu : P.underlying t = some (.int .i64)) (hx : ev L x = some (.int .u32 a.toNat)) : QOp P n R L (.convert s t x) (.int .i64 a.toNat) :=
  qop_eq (q_conv hs' hu hx) (by have h := a.toNat_lt; rw [wk_i64 zz12 zz12])
theorem wk64 (m : Nat) : wk .u64 (m : Int) = (((UInt64.ofNat m).toNat : Nat) : Int) := by
  simp only [wk, UInt64.toNat_ofNat']
  omega
def sl64 (a : UInt64) (c : Nat) : UInt64 := UInt64.ofNat (a.toNat * 2 ^ min c 64)
def sr64 (a : UInt64) (c : Nat) : UInt64 := UInt64.ofNat (a.toNat / 2 ^ min c 64)
theorem q64_add {t t' : TypeId} {x y : Operand} {a b : UInt64} (hx : ev L x = some (.int .u64 a.toNat)) (hy : ev L y = some (.int .u64 b.toNat)) : QOp P n R L (.binOp .add t x y t') (.int .u64 (a + b).toNat) :=
  q_bin hx hy (by
    have : wk .u64 ((a.toNat : Int) + b.toNat) = ((a + b).toNat : Nat) := by simp only [wk, UInt64.toNat_add]; omega
    simp only [binV, arithI, this])
theorem q64_sub {t t' : TypeId} {x y : Operand} {a b : UInt64} (hx : ev L x = some (.int .u64 a.toNat)) (hy : ev L y = some (.int .u64 b.toNat)) : QOp P n R L (.binOp .sub t x y t') (.int .u64 (a - b).toNat) :=
  q_bin hx hy (by
    have h1 := a.toNat_lt; have h2 := b.toNat_lt
    have : wk .u64 ((a.toNat : Int) - b.toNat) = ((a - b).toNat : Nat) := by simp only [wk, UInt64.toNat_sub]; omega
    simp only [binV, arithI, this])
theorem q64_mul {t t' : TypeId} {x y : Operand} {a b : UInt64} (hx : ev L x = some (.int .u64 a.toNat)) (hy : ev L y = some (.int .u64 b.toNat)) : QOp P n R L (.binOp .mul t x y t') (.int .u64 (a * b).toNat) :=
  q_bin hx hy (by
    have : wk .u64 ((a.toNat : Int) * b.toNat) = ((a * b).toNat : Nat) := by simp only [wk, UInt64.toNat_mul]; rw [← Int.natCast_mul]; omega
    simp only [binV, arithI, this])
theorem q64_and {t t' : TypeId} {x y : Operand} {a b : UInt64} (hx : ev L x = some (.int .u64 a.toNat)) (hy : ev L y = some (.int .u64 b.toNat)) : QOp P n R L (.binOp .and t x y t') (.int .u64 (a &&& b).toNat) :=
  q_bin hx hy (by
    have h1 := (a &&& b).toNat_lt
    have h2 : (BitVec.ofInt IntKind.u64.bits (a.toNat : Int) &&& BitVec.ofInt IntKind.u64.bits (b.toNat : Int)).toNat = (a &&& b).toNat :=
      (and_nat _ _ _ a.toNat_lt b.toNat_lt).trans (UInt64.toNat_and a b).symm
    have : wk .u64 (((a &&& b).toNat : Nat) : Int) = ((a &&& b).toNat : Nat) := by simp only [wk]; omega
    simp only [binV, arithI, h2, this])
theorem q64_or {t t' : TypeId} {x y : Operand} {a b : UInt64} (hx : ev L x = some (.int .u64 a.toNat)) (hy : ev L y = some (.int .u64 b.toNat)) : QOp P n R L (.binOp .or t x y t') (.int .u64 (a ||| b).toNat) :=
  q_bin hx hy (by
    have h1 := (a ||| b).toNat_lt
    have h2 : (BitVec.ofInt IntKind.u64.bits (a.toNat : Int) ||| BitVec.ofInt IntKind.u64.bits (b.toNat : Int)).toNat = (a ||| b).toNat :=
      (or_nat _ _ _ a.toNat_lt b.toNat_lt).trans (UInt64.toNat_or a b).symm
    have : wk .u64 (((a ||| b).toNat : Nat) : Int) = ((a ||| b).toNat : Nat) := by simp only [wk]; omega
    simp only [binV, arithI, h2, this])
theorem q64_xor {t t' : TypeId} {x y : Operand} {a b : UInt64} (hx : ev L x = some (.int .u64 a.toNat)) (hy : ev L y = some (.int .u64 b.toNat)) : QOp P n R L (.binOp .xor t x y t') (.int .u64 (a ^^^ b).toNat) :=
  q_bin hx hy (by
    have h1 := (a ^^^ b).toNat_lt
    have h2 : (BitVec.ofInt IntKind.u64.bits (a.toNat : Int) ^^^ BitVec.ofInt IntKind.u64.bits (b.toNat : Int)).toNat = (a ^^^ b).toNat :=
      (xor_nat _ _ _ a.toNat_lt b.toNat_lt).trans (UInt64.toNat_xor a b).symm
    have : wk .u64 (((a ^^^ b).toNat : Nat) : Int) = ((a ^^^ b).toNat : Nat) := by simp only [wk]; omega
    simp only [binV, arithI, h2, this])
theorem q64_eql {t t' : TypeId} {x y : Operand} {a b : UInt64} (hx : ev L x = some (.int .u64 a.toNat)) (hy : ev L y = some (.int .u64 b.toNat)) : QOp P n R L (.binOp .eql t x y t') (.bool (decide (a = b))) :=
  q_bin hx hy (by
    have : ((a.toNat : Int) == b.toNat) = decide (a = b) := by
      rw [Bool.eq_iff_iff]; simp [← UInt64.toNat_inj]; omega
    simp only [binV, arithI, this])
theorem q64_neq {t t' : TypeId} {x y : Operand} {a b : UInt64} (hx : ev L x = some (.int .u64 a.toNat)) (hy : ev L y = some (.int .u64 b.toNat)) : QOp P n R L (.binOp .neq t x y t') (.bool (!decide (a = b))) :=
  q_bin hx hy (by
    have : ((a.toNat : Int) != b.toNat) = !decide (a = b) := by
      rw [Bool.eq_iff_iff]; simp [← UInt64.toNat_inj]; omega
    simp only [binV, arithI, this])
theorem q64_shl {t t' : TypeId} {x y : Operand} {a : UInt64} {k' : IntKind} {b : Int} (hx : ev L x = some (.int .u64 a.toNat)) (hy : ev L y = some (.int k' b)) (h0 : 0 ≤ b) (c : Nat) (hc : b.toNat = c) : QOp P n R L (.binOp .shl t x y t') (.int .u64 (sl64 a c).toNat) :=
  qop_eq (q_shl hx hy h0) (by
    subst hc
    have : ((a.toNat : Int) * 2 ^ min b.toNat IntKind.u64.bits) = ((a.toNat * 2 ^ min b.toNat 64 : Nat) : Int) := by simp [IntKind.bits]
    rw [this, wk64]; rfl)
theorem q64_shr {t t' : TypeId} {x y : Operand} {a : UInt64} {k' : IntKind} {b : Int} (hx : ev L x = some (.int .u64 a.toNat)) (hy : ev L y = some (.int k' b)) (h0 : 0 ≤ b) (c : Nat) (hc : b.toNat = c) : QOp P n R L (.binOp .shr t x y t') (.int .u64 (sr64 a c).toNat) :=
  qop_eq (q_shr hx hy h0) (by
    subst hc
    have h1 : ((a.toNat : Int).fdiv (2 ^ min b.toNat IntKind.u64.bits)) = ((a.toNat / 2 ^ min b.toNat 64 : Nat) : Int) := by
      rw [Int.fdiv_eq_ediv_of_nonneg _ (by exact Int.le_of_lt (Int.pow_pos zz19))]
      simp [IntKind.bits]
    have h2 : a.toNat / 2 ^ min b.toNat 64 < 18446744073709551616 := Nat.lt_of_le_of_lt (Nat.div_le_self _ _) a.toNat_lt
    rw [h1]
    simp only [sr64, UInt64.toNat_ofNat']
    rw [Nat.mod_eq_of_lt h2])
theorem q64_not {t : TypeId} {x : Operand} {a : UInt64} (hx : ev L x = some (.int .u64 a.toNat)) : QOp P n R L (.unOp .xor t x) (.int .u64 (~~~a).toNat) := by
  intro d ty pos af g a' w hs _
  simp only [execOp, hs.eval hx]
  have h2 : (BitVec.ofInt IntKind.u64.bits IntKind.u64.max ^^^ BitVec.ofInt IntKind.u64.bits (a.toNat : Int)).toNat = (~~~a).toNat := by
    rw [not_nat _ _ _ zz19]
    have e2 : BitVec.ofNat IntKind.u64.bits a.toNat = a.toBitVec := BitVec.eq_of_toNat_eq ((BitVec.toNat_ofNat _ _).trans (Nat.mod_eq_of_lt a.toNat_lt))
    rw [e2]
    rfl
  have : wk .u64 (((~~~a).toNat : Nat) : Int) = ((~~~a).toNat : Nat) := by
    have h1 := (~~~a).toNat_lt
    simp only [wk]; omega
  have hr : (Op.unary .xor (.int .u64 (a.toNat : Int))).run P w = .ok (.int .u64 (IntKind.u64.wrap ((BitVec.ofInt IntKind.u64.bits IntKind.u64.max ^^^ BitVec.ofInt IntKind.u64.bits (a.toNat : Int)).toNat))) w := rfl
  rw [h2, wk_eq, this] at hr
  simp only [Sem.run_bind, hr, Result.andThen_ok, Sem.run_pure]
def of64 (m : Int) : UInt64 := UInt64.ofNat (m % 18446744073709551616).toNat
theorem of64_toNat (m : Int) : ((of64 m).toNat : Int) = m % 18446744073709551616 := by simp only [of64, UInt64.toNat_ofNat']; omega
theorem of64_cast (a : UInt64) : of64 (a.toNat : Int) = a := by
  have h := a.toNat_lt
  rw [← UInt64.toNat_inj]; have := of64_toNat (a.toNat : Int); omega
theorem q64_conv {s t : TypeId} {x : Operand} {k' : IntKind} {m : Int} {ds : TypeDesc} (hs' : P.underlying s = some ds) (hu : P.underlying t = some (.int .u64)) (hx : ev L x = some (.int k' m)) : QOp P n R L (.convert s t x) (.int .u64 (of64 m).toNat) :=
  qop_eq (q_conv hs' hu hx) (by rw [of64_toNat]; rfl)
theorem q64_int {s t : TypeId} {x : Operand} {a : UInt64} {ds : TypeDesc} (hs' : P.underlying s = some ds) (hu : P.underlying t = some (.int .i64)) (hx : ev L x = some (.int .u64 a.toNat)) : QOp P n R L (.convert s t x) (.int .i64 (wk .i64 a.toNat)) :=
  q_conv hs' hu hx
end
end Go.PL
namespace Go.PL
open Go Go.RowKit
def CellsAt (r : Rd) (a : Addr) (cs : List Value) : Prop := ∀ j v, cs[j]? = some v → r (a.add j) = some v
theorem CellsAt.at_ {r : Rd} {b : Nat} {cs : List Value} (h : CellsAt r ⟨b, 0, none⟩ cs) {j : Nat} {v : Value} (hj : cs[j]? = some v) : r ⟨b, j, none⟩ = some v := by
  have := h j v hj
  rwa [add_lit, Nat.zero_add] at this
theorem CellsAt.mono {r r' : Rd} (hr : ∀ a v, r a = some v → r' a = some v) {a : Addr} {cs : List Value} (h : CellsAt r a cs) : CellsAt r' a cs := fun j v hj => hr _ _ (h j v hj)
theorem getD_map_some {α : Type} (f : α → Value) (xs : List α) (d : α) {i : Nat} (h : i < xs.length) : (xs.map f)[i]? = some (f (xs.getD i d)) := by simp [h]
theorem put_map {α : Type} (f : α → Value) (xs : List α) (a : α) {i : Nat} (h : i < xs.length) : (xs.map f).take i ++ [f a] ++ (xs.map f).drop (i + [f a].length) = (xs.set i a).map f := by
  rw [List.map_set]
  simp only [List.length_singleton, List.append_assoc, List.singleton_append]
  rw [List.set_eq_take_append_cons_drop, if_pos (by simpa using h)]
def v8s (xs : List UInt8) : List Value := xs.map fun x => .int .u8 (x.toNat : Int)
@[simp] theorem v8s_length (xs : List UInt8) : (v8s xs).length = xs.length := by simp [v8s]
theorem v8s_get {xs : List UInt8} {i : Nat} (h : i < xs.length) : (v8s xs)[i]? = some ((fun x : UInt8 => (.int .u8 (x.toNat : Int) : Value)) (xs.getD i 0)) := getD_map_some _ xs 0 h
theorem v8s_put {xs : List UInt8} {i : Nat} (x : UInt8) (h : i < xs.length) : (v8s xs).take i ++ [.int .u8 (x.toNat : Int)] ++ (v8s xs).drop (i + [(.int .u8 (x.toNat : Int) : Value)].length) = v8s (xs.set i x) := put_map (fun x : UInt8 => (.int .u8 (x.toNat : Int) : Value)) xs x h
theorem v8s_set {xs : List UInt8} {i : Nat} (x : UInt8) : (v8s xs).set i (.int .u8 (x.toNat : Int)) = v8s (xs.set i x) := by simp [v8s, List.map_set]
theorem v8s_append (xs ys : List UInt8) : v8s (xs ++ ys) = v8s xs ++ v8s ys := by simp [v8s]
theorem v8s_take (xs : List UInt8) (n : Nat) : (v8s xs).take n = v8s (xs.take n) := by simp [v8s, List.map_take]
theorem v8s_drop (xs : List UInt8) (n : Nat) : (v8s xs).drop n = v8s (xs.drop n) := by simp [v8s, List.map_drop]
theorem v8s_one (xs : List UInt8) : ∀ u ∈ v8s xs, u.oneCell' = true := by
  intro u hu; simp only [v8s, List.mem_map] at hu; obtain ⟨x, _, rfl⟩ := hu; rfl
theorem v8s_inj {xs ys : List UInt8} (h : v8s xs = v8s ys) : xs = ys := by
  have hf : ∀ x y : UInt8, ((.int .u8 (x.toNat : Int)) : Value) = (fun x : UInt8 => (.int .u8 (x.toNat : Int) : Value)) y → x = y := by
    intro x y h
    simp at h; first | exact h | exact UInt8.toNat_inj.1 zz12
  exact List.map_inj_right hf |>.1 h
def v16s (xs : List UInt16) : List Value := xs.map fun x => .int .u16 (x.toNat : Int)
@[simp] theorem v16s_length (xs : List UInt16) : (v16s xs).length = xs.length := by simp [v16s]
theorem v16s_get {xs : List UInt16} {i : Nat} (h : i < xs.length) : (v16s xs)[i]? = some ((fun x : UInt16 => (.int .u16 (x.toNat : Int) : Value)) (xs.getD i 0)) := getD_map_some _ xs 0 h
theorem v16s_put {xs : List UInt16} {i : Nat} (x : UInt16) (h : i < xs.length) : (v16s xs).take i ++ [.int .u16 (x.toNat : Int)] ++ (v16s xs).drop (i + [(.int .u16 (x.toNat : Int) : Value)].length) = v16s (xs.set i x) := put_map (fun x : UInt16 => (.int .u16 (x.toNat : Int) : Value)) xs x h
theorem v16s_set {xs : List UInt16} {i : Nat} (x : UInt16) : (v16s xs).set i (.int .u16 (x.toNat : Int)) = v16s (xs.set i x) := by simp [v16s, List.map_set]
theorem v16s_append (xs ys : List UInt16) : v16s (xs ++ ys) = v16s xs ++ v16s ys := by simp [v16s]
theorem v16s_take (xs : List UInt16) (n : Nat) : (v16s xs).take n = v16s (xs.take n) := by simp [v16s, List.map_take]
theorem v16s_drop (xs : List UInt16) (n : Nat) : (v16s xs).drop n = v16s (xs.drop n) := by simp [v16s, List.map_drop]
theorem v16s_one (xs : List UInt16) : ∀ u ∈ v16s xs, u.oneCell' = true := by
  intro u hu; simp only [v16s, List.mem_map] at hu; obtain ⟨x, _, rfl⟩ := hu; rfl
theorem v16s_inj {xs ys : List UInt16} (h : v16s xs = v16s ys) : xs = ys := by
  have hf : ∀ x y : UInt16, ((.int .u16 (x.toNat : Int)) : Value) = (fun x : UInt16 => (.int .u16 (x.toNat : Int) : Value)) y → x = y := by
    intro x y h
    simp at h; first | exact h | exact UInt16.toNat_inj.1 zz12
  exact List.map_inj_right hf |>.1 h
def v32s (xs : List UInt32) : List Value := xs.map fun x => .int .u32 (x.toNat : Int)
@[simp] theorem v32s_length (xs : List UInt32) : (v32s xs).length = xs.length := by simp [v32s]
theorem v32s_get {xs : List UInt32} {i : Nat} (h : i < xs.length) : (v32s xs)[i]? = some ((fun x : UInt32 => (.int .u32 (x.toNat : Int) : Value)) (xs.getD i 0)) := getD_map_some _ xs 0 h
theorem v32s_put {xs : List UInt32} {i : Nat} (x : UInt32) (h : i < xs.length) : (v32s xs).take i ++ [.int .u32 (x.toNat : Int)] ++ (v32s xs).drop (i + [(.int .u32 (x.toNat : Int) : Value)].length) = v32s (xs.set i x) := put_map (fun x : UInt32 => (.int .u32 (x.toNat : Int) : Value)) xs x h
theorem v32s_set {xs : List UInt32} {i : Nat} (x : UInt32) : (v32s xs).set i (.int .u32 (x.toNat : Int)) = v32s (xs.set i x) := by simp [v32s, List.map_set]
theorem v32s_append (xs ys : List UInt32) : v32s (xs ++ ys) = v32s xs ++ v32s ys := by simp [v32s]
theorem v32s_take (xs : List UInt32) (n : Nat) : (v32s xs).take n = v32s (xs.take n) := by simp [v32s, List.map_take]
theorem v32s_drop (xs : List UInt32) (n : Nat) : (v32s xs).drop n = v32s (xs.drop n) := by simp [v32s, List.map_drop]
theorem v32s_one (xs : List UInt32) : ∀ u ∈ v32s xs, u.oneCell' = true := by
  intro u hu; simp only [v32s, List.mem_map] at hu; obtain ⟨x, _, rfl⟩ := hu; rfl
theorem v32s_inj {xs ys : List UInt32} (h : v32s xs = v32s ys) : xs = ys := by
  have hf : ∀ x y : UInt32, ((.int .u32 (x.toNat : Int)) : Value) = (fun x : UInt32 => (.int .u32 (x.toNat : Int) : Value)) y → x = y := by
    intro x y h
    simp at h; first | exact h | exact UInt32.toNat_inj.1 zz12
  exact List.map_inj_right hf |>.1 h
def v64s (xs : List UInt64) : List Value := xs.map fun x => .int .u64 (x.toNat : Int)
@[simp] theorem v64s_length (xs : List UInt64) : (v64s xs).length = xs.length := by simp [v64s]
theorem v64s_get {xs : List UInt64} {i : Nat} (h : i < xs.length) : (v64s xs)[i]? = some ((fun x : UInt64 => (.int .u64 (x.toNat : Int) : Value)) (xs.getD i 0)) := getD_map_some _ xs 0 h
theorem v64s_put {xs : List UInt64} {i : Nat} (x : UInt64) (h : i < xs.length) : (v64s xs).take i ++ [.int .u64 (x.toNat : Int)] ++ (v64s xs).drop (i + [(.int .u64 (x.toNat : Int) : Value)].length) = v64s (xs.set i x) := put_map (fun x : UInt64 => (.int .u64 (x.toNat : Int) : Value)) xs x h
theorem v64s_set {xs : List UInt64} {i : Nat} (x : UInt64) : (v64s xs).set i (.int .u64 (x.toNat : Int)) = v64s (xs.set i x) := by simp [v64s, List.map_set]
theorem v64s_append (xs ys : List UInt64) : v64s (xs ++ ys) = v64s xs ++ v64s ys := by simp [v64s]
theorem v64s_take (xs : List UInt64) (n : Nat) : (v64s xs).take n = v64s (xs.take n) := by simp [v64s, List.map_take]
theorem v64s_drop (xs : List UInt64) (n : Nat) : (v64s xs).drop n = v64s (xs.drop n) := by simp [v64s, List.map_drop]
theorem v64s_one (xs : List UInt64) : ∀ u ∈ v64s xs, u.oneCell' = true := by
  intro u hu; simp only [v64s, List.mem_map] at hu; obtain ⟨x, _, rfl⟩ := hu; rfl
theorem v64s_inj {xs ys : List UInt64} (h : v64s xs = v64s ys) : xs = ys := by
  have hf : ∀ x y : UInt64, ((.int .u64 (x.toNat : Int)) : Value) = (fun x : UInt64 => (.int .u64 (x.toNat : Int) : Value)) y → x = y := by
    intro x y h
    simp at h; first | exact h | exact UInt64.toNat_inj.1 zz12
  exact List.map_inj_right hf |>.1 h
def vis (xs : List Int) : List Value := xs.map fun x => .int .i64 x
@[simp] theorem vis_length (xs : List Int) : (vis xs).length = xs.length := by simp [vis]
theorem vis_get {xs : List Int} {i : Nat} (h : i < xs.length) : (vis xs)[i]? = some ((fun x : Int => (.int .i64 x : Value)) (xs.getD i 0)) := getD_map_some _ xs 0 h
theorem vis_put {xs : List Int} {i : Nat} (x : Int) (h : i < xs.length) : (vis xs).take i ++ [.int .i64 x] ++ (vis xs).drop (i + [(.int .i64 x : Value)].length) = vis (xs.set i x) := put_map (fun x : Int => (.int .i64 x : Value)) xs x h
theorem vis_set {xs : List Int} {i : Nat} (x : Int) : (vis xs).set i (.int .i64 x) = vis (xs.set i x) := by simp [vis, List.map_set]
theorem vis_append (xs ys : List Int) : vis (xs ++ ys) = vis xs ++ vis ys := by simp [vis]
theorem vis_take (xs : List Int) (n : Nat) : (vis xs).take n = vis (xs.take n) := by simp [vis, List.map_take]
theorem vis_drop (xs : List Int) (n : Nat) : (vis xs).drop n = vis (xs.drop n) := by simp [vis, List.map_drop]
theorem vis_one (xs : List Int) : ∀ u ∈ vis xs, u.oneCell' = true := by
  intro u hu; simp only [vis, List.mem_map] at hu; obtain ⟨x, _, rfl⟩ := hu; rfl
theorem vis_inj {xs ys : List Int} (h : vis xs = vis ys) : xs = ys := by
  have hf : ∀ x y : Int, ((.int .i64 x) : Value) = (fun x : Int => (.int .i64 x : Value)) y → x = y := by
    intro x y h
    simpa using h
  exact List.map_inj_right hf |>.1 h
def vbs (xs : List Bool) : List Value := xs.map fun x => .bool x
@[simp] theorem vbs_length (xs : List Bool) : (vbs xs).length = xs.length := by simp [vbs]
theorem vbs_get {xs : List Bool} {i : Nat} (h : i < xs.length) : (vbs xs)[i]? = some ((fun x : Bool => (.bool x : Value)) (xs.getD i false)) := getD_map_some _ xs false h
theorem vbs_put {xs : List Bool} {i : Nat} (x : Bool) (h : i < xs.length) : (vbs xs).take i ++ [.bool x] ++ (vbs xs).drop (i + [(.bool x : Value)].length) = vbs (xs.set i x) := put_map (fun x : Bool => (.bool x : Value)) xs x h
theorem vbs_set {xs : List Bool} {i : Nat} (x : Bool) : (vbs xs).set i (.bool x) = vbs (xs.set i x) := by simp [vbs, List.map_set]
theorem vbs_append (xs ys : List Bool) : vbs (xs ++ ys) = vbs xs ++ vbs ys := by simp [vbs]
theorem vbs_take (xs : List Bool) (n : Nat) : (vbs xs).take n = vbs (xs.take n) := by simp [vbs, List.map_take]
theorem vbs_drop (xs : List Bool) (n : Nat) : (vbs xs).drop n = vbs (xs.drop n) := by simp [vbs, List.map_drop]
theorem vbs_one (xs : List Bool) : ∀ u ∈ vbs xs, u.oneCell' = true := by
  intro u hu; simp only [vbs, List.mem_map] at hu; obtain ⟨x, _, rfl⟩ := hu; rfl
theorem vbs_inj {xs ys : List Bool} (h : vbs xs = vbs ys) : xs = ys := by
  have hf : ∀ x y : Bool, ((.bool x) : Value) = (fun x : Bool => (.bool x : Value)) y → x = y := by
    intro x y h
    simpa using h
  exact List.map_inj_right hf |>.1 h
end Go.PL
namespace Go.PL
open Go Go.RowKit
section
variable {P : Program}
def mkV (agg : Bool) (cs : List Value) : Value := if agg then .agg cs.toArray else cs.headD undef
def EqC (P : Program) (dp : Nat) (t : TypeId) (agg : Bool) (sz : Nat) (W : List Value → Prop) : Prop :=
  (∀ w, (isAgg t).run P w = .ok agg w) ∧ (∀ w, (sizeOf t).run P w = .ok sz w) ∧ (agg = false → sz = 1) ∧ (∀ cs, W cs → cs.length = sz) ∧
  ∀ d, dp ≤ d → ∀ cs ds, W cs → W ds → ∃ r : Bool, (∀ w, (Op.equalIn d t (mkV agg cs) (mkV agg ds)).run P w = .ok r w) ∧ (r = true ↔ cs = ds)
def IntCell (k : IntKind) (cs : List Value) : Prop := ∃ a : Int, cs = [.int k a]
def BoolCell (cs : List Value) : Prop := ∃ a : Bool, cs = [.bool a]
def StrCell (cs : List Value) : Prop := ∃ a : ByteArray, cs = [.string a]
theorem eqc_int {t : TypeId} {k : IntKind} {z : Value} {by_ : Nat} (hu : P.underlying t = some (.int k)) (ht : TyI P t z 1 by_) : EqC P 1 t false 1 (IntCell k) := by
  refine ⟨fun w => run_agg hu w, fun w => run_sz ht w, fun _ => rfl, ?_, ?_⟩
  · rintro cs ⟨a, rfl⟩; rfl
  · rintro d hd cs ds ⟨a, rfl⟩ ⟨b, rfl⟩
    obtain ⟨d, rfl⟩ : ∃ m, d = m + 1 := ⟨d - 1, zz12⟩
    exact ⟨a == b, fun w => run_equalIn_int w d t k k a b hu, zz40⟩
theorem eqc_bool {t : TypeId} {z : Value} {by_ : Nat} (hu : P.underlying t = some .bool) (ht : TyI P t z 1 by_) : EqC P 1 t false 1 BoolCell := by
  refine ⟨fun w => run_agg hu w, fun w => run_sz ht w, fun _ => rfl, ?_, ?_⟩
  · rintro cs ⟨a, rfl⟩; rfl
  · rintro d hd cs ds ⟨a, rfl⟩ ⟨b, rfl⟩
    obtain ⟨d, rfl⟩ : ∃ m, d = m + 1 := ⟨d - 1, zz12⟩
    exact ⟨a == b, fun w => run_equalIn_bool' w d t a b hu, zz40⟩
theorem part_run {t : TypeId} {agg : Bool} {sz : Nat} (ha : ∀ w, (isAgg t).run P w = .ok agg w) (hs : ∀ w, (sizeOf t).run P w = .ok sz w) (h1 : agg = false → sz = 1) {cs : List Value} {off : Nat} (hin : off + sz ≤ cs.length) (hpos : 0 < sz ∨ agg = true) (w : World) :
    (part t cs.toArray off).run P w = .ok (mkV agg ((cs.drop off).take sz)) w := by
  cases agg with
  | true => simp [part, ha, hs, mkV]
  | false =>
    have := h1 rfl
    subst this
    have hlt : off < cs.length := by omega
    have e : (cs.drop off).take 1 = [cs[off]] := by
      rw [List.drop_eq_getElem_cons hlt]; rfl
    simp [part, ha, mkV, hlt, e]
theorem take_drop_split {cs ds : List Value} {off sz : Nat} (hl : cs.length = ds.length) : cs.drop off = ds.drop off ↔ (cs.drop off).take sz = (ds.drop off).take sz ∧ cs.drop (off + sz) = ds.drop (off + sz) := by
  constructor
  · intro h
    refine ⟨by rw [h], ?_⟩
    rw [← List.drop_drop, ← List.drop_drop, h]
  · rintro ⟨h1, h2⟩
    rw [← List.take_append_drop sz (cs.drop off), ← List.take_append_drop sz (ds.drop off), h1, List.drop_drop, List.drop_drop, h2]
inductive EqFs (P : Program) (dp : Nat) : List Field → Nat → Nat → (List Value → Prop) → Prop where
  | nil (off : Nat) : EqFs P dp [] off off (fun _ => True)
  | cons {f : Field} {fs : List Field} {off sz fin : Nat} {agg : Bool} {W W' : List Value → Prop} (hn : (f.name == "_") = false) (ho : f.offset = off) (h : EqC P dp f.type agg sz W) (hr : EqFs P dp fs (off + sz) fin W') :
      EqFs P dp (f :: fs) off fin (fun cs => W ((cs.drop off).take sz) ∧ W' cs)
theorem eqfs_le {dp : Nat} {fs : List Field} {off fin : Nat} {W : List Value → Prop} (h : EqFs P dp fs off fin W) : off ≤ fin := by
  induction h with
  | nil => exact Nat.le_refl _
  | cons _ _ _ _ ih => omega
theorem eqfs_run {dp : Nat} {fs : List Field} {off fin : Nat} {W : List Value → Prop} (h : EqFs P dp fs off fin W) : ∀ d, dp ≤ d → ∀ cs ds : List Value, cs.length = fin → ds.length = fin → W cs → W ds →
    ∃ r : Bool, (∀ w, (Op.eqFields d cs.toArray ds.toArray fs).run P w = .ok r w) ∧ (r = true ↔ cs.drop off = ds.drop off) := by
  induction h with
  | nil off =>
    intro d hd cs ds hc hd' _ _
    exact ⟨true, fun w => by simp [Op.eqFields], by simp [List.drop_of_length_le, hc, hd']⟩
  | @cons f fs off sz fin agg W W' hn ho h hr ih =>
    intro d hd cs ds hc hd' hw hw'
    obtain ⟨ha, hs, h1, hlen, heq⟩ := h
    obtain ⟨r1, hr1, hi1⟩ := heq d hd _ _ hw.1 hw'.1
    obtain ⟨r2, hr2, hi2⟩ := ih d hd cs ds hc hd' hw.2 hw'.2
    have hle := eqfs_le hr
    have hl1 := hlen _ hw.1
    have hpos : 0 < sz ∨ agg = true := by
      cases agg
      · exact .inl (by have := h1 rfl; omega)
      · exact .inr rfl
    have hn' := (beq_eq_false_iff_ne.1 hn)
    refine ⟨r1 && r2, fun w => ?_, ?_⟩
    · have p1 := part_run ha hs h1 (cs := cs) (off := off) zz12 hpos w
      have p2 := part_run ha hs h1 (cs := ds) (off := off) zz12 hpos w
      simp only [Op.eqFields, if_pos hn', Sem.run_bind]
      rw [ho, p1]
      simp only [Result.andThen_ok]
      rw [p2]
      simp only [Result.andThen_ok]
      rw [hr1 w]
      cases r1
      · simp
      · simp [hr2 w]
    · rw [Bool.and_eq_true, hi1, hi2]
      exact (take_drop_split zz12).symm
theorem eqc_struct {dp : Nat} {t : TypeId} {fs : Array Field} {sz : Nat} {W : List Value → Prop} {z : Value} {by_ : Nat} (hu : P.underlying t = some (.struct fs)) (ht : TyI P t z sz by_) (hp : P.stoodInHeld t = false) (h : EqFs P dp fs.toList 0 sz W) :
    EqC P (dp + 1) t true sz (fun cs => cs.length = sz ∧ W cs) := by
  refine ⟨fun w => run_agg hu w, fun w => run_sz ht w, fun h => (by cases h), fun cs h => h.1, ?_⟩
  rintro d hd cs ds ⟨hc, hwc⟩ ⟨hd', hwd⟩
  obtain ⟨d, rfl⟩ : ∃ m, d = m + 1 := ⟨d - 1, zz12⟩
  obtain ⟨r, hr, hi⟩ := eqfs_run h d zz12 cs ds hc hd' hwc hwd
  refine ⟨r, fun w => ?_, by simpa using hi⟩
  have hf : P.fieldsOf t = fs := by simp [Program.fieldsOf, hu]
  rw [show mkV true cs = .agg cs.toArray from rfl, show mkV true ds = .agg ds.toArray from rfl, run_equalIn_struct (P := P) w d t _ _ (by rw [hf]; exact hu) hp, hf]
  exact hr w
theorem eqitems_run {dp : Nat} {e : TypeId} {agg : Bool} {sz : Nat} {W : List Value → Prop} (h : EqC P dp e agg sz W) (hsz : P.cellsOf e = sz) (cs ds : List Value) (n : Nat) (hc : cs.length = n * sz) (hd' : ds.length = n * sz)
    (hw : ∀ i, i < n → W ((cs.drop (i * sz)).take sz)) (hw' : ∀ i, i < n → W ((ds.drop (i * sz)).take sz)) (d : Nat) (hd : dp ≤ d) : ∀ (m i : Nat), i + m = n →
    ∃ r : Bool, (∀ w, (Op.eqItems d e (P.cellsOf e) cs.toArray ds.toArray (List.range' i m)).run P w = .ok r w) ∧ (r = true ↔ cs.drop (i * sz) = ds.drop (i * sz)) := by
  obtain ⟨ha, hs, h1, hlen, heq⟩ := h
  intro m
  induction m with
  | zero =>
    intro i hi
    have : i = n := by omega
    subst this
    exact ⟨true, fun w => by simp [Op.eqItems], by simp [List.drop_of_length_le, hc, hd']⟩
  | succ m ih =>
    intro i hi
    obtain ⟨r1, hr1, hi1⟩ := heq d hd _ _ (hw i zz12) (hw' i zz12)
    obtain ⟨r2, hr2, hi2⟩ := ih (i + 1) zz12
    have hb : i * sz + sz ≤ n * sz := by rw [← Nat.succ_mul]; exact Nat.mul_le_mul_right _ zz12
    have hl1 := hlen _ (hw i zz12)
    have hpos : 0 < sz ∨ agg = true := by
      cases agg
      · exact .inl (by have := h1 rfl; omega)
      · exact .inr rfl
    refine ⟨r1 && r2, fun w => ?_, ?_⟩
    · have p1 := part_run ha hs h1 (cs := cs) (off := i * sz) zz12 hpos w
      have p2 := part_run ha hs h1 (cs := ds) (off := i * sz) zz12 hpos w
      rw [List.range'_succ]
      simp only [Op.eqItems, Sem.run_bind, hsz]
      rw [p1]
      simp only [Result.andThen_ok]
      rw [p2]
      simp only [Result.andThen_ok]
      rw [hr1 w]
      have h2 := hr2 w
      rw [hsz] at h2
      cases r1
      · simp
      · simp [h2]
    · rw [Bool.and_eq_true, hi1, hi2, Nat.succ_mul]
      exact (take_drop_split zz12).symm
theorem eqc_array {dp : Nat} {t e : TypeId} {n : Nat} {agg : Bool} {sz tot : Nat} {W : List Value → Prop} {z ze : Value} {by_ bye : Nat} (hu : P.underlying t = some (.array n e)) (ht : TyI P t z tot by_) (he : TyI P e ze sz bye) (htot : tot = n * sz) (h : EqC P dp e agg sz W) :
    EqC P (dp + 1) t true tot (fun cs => cs.length = tot ∧ ∀ i, i < n → W ((cs.drop (i * sz)).take sz)) := by
  subst htot
  refine ⟨fun w => run_agg hu w, fun w => run_sz ht w, fun h => (by cases h), fun cs h => h.1, ?_⟩
  rintro d hd cs ds ⟨hc, hwc⟩ ⟨hd', hwd⟩
  obtain ⟨d, rfl⟩ : ∃ m, d = m + 1 := ⟨d - 1, zz12⟩
  obtain ⟨i, hi, _, his, _⟩ := he.info
  have hcell : P.cellsOf e = sz := by simp [Program.cellsOf, hi, his]
  obtain ⟨r, hr, hiff⟩ := eqitems_run h hcell cs ds n hc hd' hwc hwd d zz12 n 0 zz12
  refine ⟨r, fun w => ?_, by simpa using hiff⟩
  rw [show mkV true cs = .agg cs.toArray from rfl, show mkV true ds = .agg ds.toArray from rfl, run_equalIn_array (P := P) w d _ _ hu hi, List.range_eq_range']
  exact hr w
variable {n : Cx} {R : World → Prop} {L : Slots}
theorem q_eqA {dp : Nat} {t t' : TypeId} {x y : Operand} {cs ds : List Value} {sz : Nat} {W : List Value → Prop} (h : EqC P dp t true sz W) (hdp : dp ≤ 10000) (hg : P.eqGuardType P.depth t = false)
    (hx : ev L x = some (.agg cs.toArray)) (hy : ev L y = some (.agg ds.toArray)) (hc : W cs) (hd : W ds) (b : Bool) (hb : b = true ↔ cs = ds) : QOp P n R L (.binOp .eql t x y t') (.bool b) := by
  intro d' ty pos af g a w hs _
  obtain ⟨r, hr, hi⟩ := h.2.2.2.2 10000 hdp cs ds hc hd
  have e : r = b := by
    rw [Bool.eq_iff_iff, hi, hb]
  subst e
  have h2 := hr w
  simp only [mkV, if_true] at h2
  simp only [execOp, hs.eval hx, hs.eval hy]
  simp [eqGuard, hg, binOp, Op.equal, Op.maxDepth, h2, pure]
theorem q_neA {dp : Nat} {t t' : TypeId} {x y : Operand} {cs ds : List Value} {sz : Nat} {W : List Value → Prop} (h : EqC P dp t true sz W) (hdp : dp ≤ 10000) (hg : P.eqGuardType P.depth t = false)
    (hx : ev L x = some (.agg cs.toArray)) (hy : ev L y = some (.agg ds.toArray)) (hc : W cs) (hd : W ds) (b : Bool) (hb : b = true ↔ cs ≠ ds) : QOp P n R L (.binOp .neq t x y t') (.bool b) := by
  intro d' ty pos af g a w hs _
  obtain ⟨r, hr, hi⟩ := h.2.2.2.2 10000 hdp cs ds hc hd
  have e : (!r) = b := by
    rw [Bool.eq_iff_iff, hb]; cases r <;> simp at hi ⊢ <;> exact hi
  subst e
  have h2 := hr w
  simp only [mkV, if_true] at h2
  simp only [execOp, hs.eval hx, hs.eval hy]
  simp [eqGuard, hg, binOp, Op.equal, Op.maxDepth, h2, pure]
end
end Go.PL
namespace Go.PL
open Go Go.RowKit
section
variable {P : Program} {n : Cx} {R : World → Prop} {L : Slots} {Q : Exit → Act → World → Prop} {ops : Array Oper} {rest : List Oper}
theorem wpl_fact {p : Prop} (h : ∀ w, R w → p) (k : p → WPL P ops Q n R L rest) : WPL P ops Q n R L rest := fun a w hs hr => k (h w hr) a w hs hr
theorem wpc_fact {c : Code} {p : Prop} (h : ∀ w, R w → p) (k : p → WPC P Q n R L c) : WPC P Q n R L c := fun a w hs hr => k (h w hr) a w hs hr
theorem ex_fact {e : Exit} {p : Prop} (h : ∀ w, R w → p) (k : p → EX Q e n R L) : EX Q e n R L := fun a w hs hr => k (h w hr) a w hs hr
theorem wpl_mono {R' : World → Prop} (h : ∀ w, R w → R' w) (k : WPL P ops Q n R' L rest) : WPL P ops Q n R L rest := fun a w hs hr => k a w hs (h w hr)
theorem wpc_mono {c : Code} {R' : World → Prop} (h : ∀ w, R w → R' w) (k : WPC P Q n R' L c) : WPC P Q n R L c := fun a w hs hr => k a w hs (h w hr)
theorem ex_mono {e : Exit} {R' : World → Prop} (h : ∀ w, R w → R' w) (k : EX Q e n R' L) : EX Q e n R L := fun a w hs hr => k a w hs (h w hr)
def Seen (r : Rd) (v : Value) (m sz : Nat) (vs : List Value) : Prop :=
  vs.length = m * sz ∧ ∃ a cap, v = .slice a m cap ∧ m ≤ cap ∧ cap ≤ maxLen ∧ ((a = none ∧ cap = 0) ∨ ∃ ad, a = some ad ∧ CellsAt r ad vs)
theorem Seen.mono {r r' : Rd} (hr : ∀ a v, r a = some v → r' a = some v) {v : Value} {m sz : Nat} {vs : List Value} (h : Seen r v m sz vs) : Seen r' v m sz vs := by
  obtain ⟨h1, a, cap, h2, h3, h4, h5⟩ := h
  refine ⟨h1, a, cap, h2, h3, h4, ?_⟩
  rcases h5 with h5 | ⟨ad, h5, h6⟩
  · exact .inl h5
  · exact .inr ⟨ad, h5, h6.mono hr⟩
def seen (v : Value) (m sz : Nat) (vs : List Value) : Fact := ⟨fun r => Seen r v m sz vs, fun _ _ hr h => h.mono hr⟩
def cellsF (a : Addr) (vs : List Value) : Fact := ⟨fun r => CellsAt r a vs, fun _ _ hr h => h.mono hr⟩
theorem Seen.form {r : Rd} {v : Value} {m sz : Nat} {vs : List Value} (h : Seen r v m sz vs) : ∃ a cap, v = .slice a m cap ∧ m ≤ cap ∧ cap ≤ maxLen ∧ (a = none → cap = 0) := by
  obtain ⟨h1, a, cap, h2, h3, h4, h5⟩ := h
  refine ⟨a, cap, h2, h3, h4, fun ha => ?_⟩
  rcases h5 with h5 | ⟨ad, h5, h6⟩
  · exact h5.2
  · rw [ha] at h5; cases h5
theorem Seen.form1 {r : Rd} {v : Value} {m sz : Nat} {vs : List Value} (h : Seen r v m sz vs) (hm : 0 < m) : ∃ ad cap, v = .slice (some ad) m cap ∧ m ≤ cap ∧ cap ≤ maxLen := by
  obtain ⟨a, cap, h1, h2, h3, h4⟩ := h.form
  cases a with
  | none => have := h4 rfl; omega
  | some ad => exact ⟨ad, cap, h1, h2, h3⟩
theorem Seen.cell {r : Rd} {ad : Addr} {cap m sz : Nat} {vs : List Value} (h : Seen r (.slice (some ad) m cap) m sz vs) {j : Nat} {u : Value} (hj : vs[j]? = some u) : r (ad.add j) = some u := by
  obtain ⟨h1, a, cap, h2, h3, h4, h5⟩ := h
  simp at h2
  rcases h5 with h5 | ⟨ad', h5, h6⟩
  · obtain ⟨rfl, rfl⟩ := h2; cases h5.1
  · obtain ⟨rfl, rfl⟩ := h2; cases h5; exact h6 j u hj
theorem Seen.cells {r : Rd} {ad : Addr} {cap m sz : Nat} {vs : List Value} (h : Seen r (.slice (some ad) m cap) m sz vs) : CellsAt r ad vs := fun j u hj => h.cell hj
theorem Seen.len {r : Rd} {v : Value} {m sz : Nat} {vs : List Value} (h : Seen r v m sz vs) : vs.length = m * sz := h.1
theorem Seen.cap {r : Rd} {a : Option Addr} {cap m sz : Nat} {vs : List Value} (h : Seen r (.slice a m cap) m sz vs) : m ≤ cap ∧ cap ≤ maxLen ∧ (a = none → cap = 0) := by
  obtain ⟨a', cap', h1, h2, h3, h4⟩ := h.form
  simp at h1; obtain ⟨rfl, rfl⟩ := h1; exact ⟨h2, h3, h4⟩
theorem seen_nil (r : Rd) (sz : Nat) : Seen r (.slice none 0 0) 0 sz [] := ⟨zz40, none, 0, rfl, Nat.le_refl _, Nat.zero_le _, .inl ⟨rfl, rfl⟩⟩
theorem addr_add_add (a : Addr) (i j : Nat) : (a.add i).add j = a.add (i + j) := by
  unfold Addr.add
  by_cases hi : i = 0 <;> by_cases hj : j = 0 <;> simp [hi, hj, Nat.add_assoc]
theorem addr_add_zero (a : Addr) : a.add 0 = a := by
  cases a with
  | mk b o s =>
    cases s with
    | none => simp [Addr.add]
    | some s => simp [Addr.add]
theorem Seen.slice {r : Rd} {a : Option Addr} {cap m sz : Nat} {vs : List Value} (h : Seen r (.slice a m cap) m sz vs) (l k : Nat) (h1 : l ≤ k) (h2 : k ≤ m) :
    Seen r (sliced a l k cap sz) (k - l) sz ((vs.drop (l * sz)).take ((k - l) * sz)) := by
  obtain ⟨hc1, hc2, hc3⟩ := h.cap
  have hlen := h.len
  have hb : k * sz ≤ m * sz := Nat.mul_le_mul_right _ h2
  have hb1 : (k - l) * sz = k * sz - l * sz := Nat.sub_mul ..
  have hb2 : l * sz ≤ k * sz := Nat.mul_le_mul_right _ h1
  refine ⟨by rw [List.length_take, List.length_drop, hlen]; omega, _, _, rfl, zz12, zz12, ?_⟩
  cases a with
  | none =>
    have := hc3 rfl
    exact .inl ⟨zz40, zz12⟩
  | some ad =>
    by_cases he : cap = l
    · refine .inr ⟨ad, by simp [he], fun j u hj => ?_⟩
      have : (vs.drop (l * sz)).take ((k - l) * sz) = [] := by
        rw [show k - l = 0 from zz12]; simp
      rw [this] at hj; simp at hj
    · refine .inr ⟨ad.add (l * sz), by simp [he], fun j u hj => ?_⟩
      rw [addr_add_add]
      refine h.cell ?_
      rw [List.getElem?_take] at hj
      split at hj
      · rw [List.getElem?_drop] at hj; exact hj
      · cases hj
theorem CellsAt.sub {r : Rd} {a : Addr} {cs : List Value} (h : CellsAt r a cs) (l k : Nat) : CellsAt r (a.add l) ((cs.drop l).take k) := by
  intro j u hj
  rw [addr_add_add]
  refine h _ _ ?_
  rw [List.getElem?_take] at hj
  split at hj
  · rw [List.getElem?_drop] at hj; exact hj
  · cases hj
theorem seen_at {r : Rd} {ad : Addr} {vs : List Value} {l k N sz : Nat} (h : CellsAt r ad vs) (h1 : l ≤ k) (h2 : k ≤ N) (hN : N ≤ maxLen) (hl : vs.length = N * sz) :
    Seen r (slicedAt ad l k N sz) (k - l) sz ((vs.drop (l * sz)).take ((k - l) * sz)) := by
  have hb : k * sz ≤ N * sz := Nat.mul_le_mul_right _ h2
  have hb1 : (k - l) * sz = k * sz - l * sz := Nat.sub_mul ..
  have hb2 : l * sz ≤ k * sz := Nat.mul_le_mul_right _ h1
  refine ⟨by rw [List.length_take, List.length_drop, hl]; omega, _, _, rfl, zz12, zz12, ?_⟩
  by_cases he : N = l
  · refine .inr ⟨ad, by simp [he], fun j u hj => ?_⟩
    have : (vs.drop (l * sz)).take ((k - l) * sz) = [] := by
      rw [show k - l = 0 from zz12]; simp
    rw [this] at hj; simp at hj
  · refine .inr ⟨ad.add (l * sz), by simp [he], ?_⟩
    exact h.sub _ _
theorem seen_whole {r : Rd} {ad : Addr} {vs : List Value} {N sz : Nat} (h : CellsAt r ad vs) (hN : N ≤ maxLen) (hl : vs.length = N * sz) :
    Seen r (.slice (some ad) N N) N sz vs := ⟨hl, _, _, rfl, Nat.le_refl _, hN, .inr ⟨ad, rfl, h⟩⟩
section
variable {w0 w : World} {Ln : List Nat} {M : List Ent} {S : List Fact}
theorem Mem.row_form (h : Mem w0 Ln M S w) {v : Value} {m : Nat} {e : TypeId} {sz : Nat} {xs : List Value} (hm : Ent.row v m e sz xs ∈ M) :
    (v = .slice none 0 0 ∧ m = 0 ∧ xs = []) ∨ ∃ g cap, v = .slice (some ⟨g, 0, none⟩) m cap ∧ m ≤ cap ∧ cap ≤ maxLen := by
  have h2 := (h.own _ hm : w.ownsRow 0 e sz v m xs)
  rcases h2.2 with ⟨rfl, rfl⟩ | ⟨g, cap, cur, rfl, _, _, h3, h4, _⟩
  · exact .inl ⟨rfl, rfl, List.eq_nil_of_length_eq_zero (by simpa using h2.1)⟩
  · exact .inr ⟨g, cap, rfl, h3, h4⟩
theorem Mem.row_len (h : Mem w0 Ln M S w) {v : Value} {m : Nat} {e : TypeId} {sz : Nat} {xs : List Value} (hm : Ent.row v m e sz xs ∈ M) : xs.length = m * sz := (h.own _ hm : w.ownsRow 0 e sz v m xs).1
theorem Mem.seen_row (h : Mem w0 Ln M S w) {v : Value} {m : Nat} {e : TypeId} {sz : Nat} {xs : List Value} (hm : Ent.row v m e sz xs ∈ M) : Seen w.cell? v m sz xs := by
  have h2 := (h.own _ hm : w.ownsRow 0 e sz v m xs)
  refine ⟨h2.1, ?_⟩
  rcases h.row_form hm with ⟨rfl, rfl, rfl⟩ | ⟨g, cap, rfl, h3, h4⟩
  · exact ⟨none, 0, rfl, Nat.le_refl _, Nat.zero_le _, .inl ⟨rfl, rfl⟩⟩
  · exact ⟨_, _, rfl, h3, h4, .inr ⟨_, rfl, fun j u hj => h2.cells rfl j u hj⟩⟩
theorem Mem.seenV (h : Mem w0 Ln M S w) {v : Value} {m : Nat} {e : TypeId} {sz : Nat} {xs : List Value} [hm : HasV M v m e sz xs] : Seen w.cell? v m sz xs := h.seen_row hm.out
theorem Mem.formV (h : Mem w0 Ln M S w) {v : Value} {m : Nat} {e : TypeId} {sz : Nat} {xs : List Value} [hm : HasV M v m e sz xs] :
    (v = .slice none 0 0 ∧ m = 0 ∧ xs = []) ∨ ∃ g cap, v = .slice (some ⟨g, 0, none⟩) m cap ∧ m ≤ cap ∧ cap ≤ maxLen := h.row_form hm.out
theorem Mem.atB (h : Mem w0 Ln M S w) {b : Nat} {t : TypeId} {cs : List Value} [hm : HasB M b t cs] : CellsAt w.cell? ⟨b, 0, none⟩ cs := h.cells_blk hm.out
theorem Mem.at_blk (h : Mem w0 Ln M S w) {b : Nat} {t : TypeId} {cs : List Value} (hm : Ent.blk b t cs ∈ M) : CellsAt w.cell? ⟨b, 0, none⟩ cs := h.cells_blk hm
theorem Mem.seen_old (h : Mem w0 [] M S w) {v : Value} {m sz : Nat} {vs : List Value} (hv : Seen w0.cell? v m sz vs) : Seen w.cell? v m sz vs := hv.mono fun _ _ hc => h.cell_old hc
theorem Mem.at_old (h : Mem w0 [] M S w) {a : Addr} {vs : List Value} (hv : CellsAt w0.cell? a vs) : CellsAt w.cell? a vs := hv.mono fun _ _ hc => h.cell_old hc
theorem Mem.seen_fact (h : Mem w0 Ln M S w) {v : Value} {m sz : Nat} {vs : List Value} (hs : seen v m sz vs ∈ S) : Seen w.cell? v m sz vs := h.fact hs
theorem Mem.at_fact (h : Mem w0 Ln M S w) {a : Addr} {vs : List Value} (hs : cellsF a vs ∈ S) : CellsAt w.cell? a vs := h.fact hs
theorem Mem.nilRow (h : Mem w0 Ln M S w) (e : TypeId) (sz : Nat) : Mem w0 Ln (.row (.slice none 0 0) 0 e sz [] :: M) S w := by
  refine h.step rfl rfl rfl (Nat.le_refl _) (fun _ _ _ _ => rfl) ?_ ?_ ?_ ?_
  · intro x hx
    rcases List.mem_cons.1 hx with rfl | hx
    · exact World.ownsRow_nil w 0 e sz
    · exact h.own x hx
  · intro x hx k hk
    rcases List.mem_cons.1 hx with rfl | hx
    · simp [Ent.num, Value.ownBlock] at hk
    · exact h.new x hx k hk
  · exact List.pairwise_cons.2 ⟨fun f hf k hk => by simp [Ent.num, Value.ownBlock] at hk, h.apart⟩
  · intro k hk hm
    simp only [inM, List.any_cons, Bool.or_eq_false_iff]
    exact ⟨by simp [Ent.num, Value.ownBlock], hm⟩
theorem Mem.toRow {M' : List Ent} (h : Mem w0 Ln M S w) {b : Nat} {e : TypeId} {cs : List Value} {N sz : Nat} (hr : Repl M (.blk b e cs) (.row (.slice (some ⟨b, 0, none⟩) N N) N e sz cs) M') (hl : cs.length = N * sz) (hN : N ≤ maxLen) :
    Mem w0 Ln M' S w := by
  have hb : w.heap[b]? = some (.cells cs.toArray e (0, 0)) := h.own _ hr.mem
  refine h.turn hr rfl rfl rfl (Nat.le_refl _) (fun _ _ _ => rfl) ?_ ?_
  · exact ⟨hl, .inr ⟨b, N, cs.toArray, rfl, Nat.zero_le _, hb, Nat.le_refl _, hN, by simpa using hl, by simp; rw [← hl]; exact List.take_length ..⟩⟩
  · intro k hk; exact .inl hk
theorem Mem.cutRow {M' : List Ent} (h : Mem w0 Ln M S w) {g cap m k : Nat} {e : TypeId} {xs : List Value} {sz : Nat}
    (hr : Repl M (.row (.slice (some ⟨g, 0, none⟩) m cap) m e sz xs) (.row (.slice (some ⟨g, 0, none⟩) k cap) k e sz (xs.take (k * sz))) M') (hk : k ≤ m) : Mem w0 Ln M' S w := by
  have h2 := (h.own _ hr.mem : w.ownsRow 0 e sz _ m xs)
  refine h.turn hr rfl rfl rfl (Nat.le_refl _) (fun _ _ _ => rfl) ?_ ?_
  · have hb : k * sz ≤ m * sz := Nat.mul_le_mul_right _ hk
    refine ⟨by rw [List.length_take, h2.1]; omega, ?_⟩
    rcases h2.2 with ⟨h3, _⟩ | ⟨g', cap', cur, h3, h4, h5, h6, h7, h8, h9⟩
    · simp at h3
    · simp at h3
      obtain ⟨rfl, rfl⟩ := h3
      refine .inr ⟨g, cap, cur, rfl, h4, h5, zz12, h7, h8, ?_⟩
      rw [← h9, List.take_take]; congr 1; omega
  · intro k hk; exact .inl hk
inductive Pick : List Ent → Ent → List Ent → Prop where
  | here {x : Ent} {l : List Ent} : Pick (x :: l) x l
  | there {x y : Ent} {l l' : List Ent} : Pick l x l' → Pick (y :: l) x (y :: l')
theorem Pick.sublist {l l' : List Ent} {x : Ent} (h : Pick l x l') : l'.Sublist l := by
  induction h with
  | here => exact List.sublist_cons_self ..
  | there _ ih => exact ih.cons_cons _
theorem Pick.mem {l l' : List Ent} {x : Ent} (h : Pick l x l') : x ∈ l := by
  induction h with
  | here => simp
  | there _ ih => exact List.mem_cons_of_mem _ ih
theorem Pick.apart {l l' : List Ent} {x : Ent} (h : Pick l x l') (ha : l.Pairwise fun e f => ∀ k, e.num = some k → f.num ≠ some k) : ∀ k, x.num = some k → inM l' k = false := by
  induction h with
  | here =>
    intro k hk
    cases hm : inM _ k
    · rfl
    · obtain ⟨e, he, hn⟩ := inM_iff.1 hm
      exact absurd hn ((List.pairwise_cons.1 ha).1 e he k hk)
  | there hp ih =>
    intro k hk
    obtain ⟨h1, h2⟩ := List.pairwise_cons.1 ha
    simp only [inM, List.any_cons, Bool.or_eq_false_iff]
    refine ⟨?_, ih h2 k hk⟩
    simp only [beq_eq_false_iff_ne, ne_eq]
    intro hy
    exact h1 _ hp.mem k hy hk
theorem Mem.freezeRow {M' : List Ent} (h : Mem w0 [] M S w) {v : Value} {m : Nat} {e : TypeId} {sz : Nat} {xs : List Value} (hp : Pick M (.row v m e sz xs) M') : Mem w0 [] M' (seen v m sz xs :: S) w := by
  have hseen := h.seen_row hp.mem
  have hap := hp.apart h.apart
  have hnew := h.new _ hp.mem
  have h1 : Mem w0 [] M' S w := by
    refine ⟨h.os, h.tape, h.output, h.size, h.old, fun e he => h.own e (hp.sublist.subset he), fun e he => h.new e (hp.sublist.subset he), h.apart.sublist hp.sublist, fun s hs => s.mono _ _ (fun a v hv => ?_) (h.facts s hs)⟩
    simp only [rdF] at hv ⊢
    split at hv
    · rename_i hc
      have hin : inM M' a.block = false := by
        cases hm' : inM M' a.block
        · rfl
        · obtain ⟨e, he, hnum⟩ := inM_iff.1 hm'
          exact absurd hnum (inM_not hc.2 e (hp.sublist.subset he))
      rw [if_pos ⟨hc.1, hin⟩]; exact hv
    · cases hv
  refine { h1 with facts := fun s hs => ?_ }
  rcases List.mem_cons.1 hs with rfl | hs
  · show Seen _ v m sz xs
    obtain ⟨q1, a, cap, q2, q3, q4, q5⟩ := hseen
    refine ⟨q1, a, cap, q2, q3, q4, ?_⟩
    rcases q5 with q5 | ⟨ad, q5, q6⟩
    · exact .inl q5
    · refine .inr ⟨ad, q5, fun j u hj => ?_⟩
      have hc := q6 j u hj
      subst q2 q5
      have hbl : (ad.add j).block = ad.block := by unfold Addr.add; split <;> rfl
      have hk : (Ent.row (.slice (some ad) m cap) m e sz xs).num = some ad.block := rfl
      simp only [rdF, hbl]
      rw [if_pos ⟨(hnew _ hk).resolve_right zz40, hap _ hk⟩]
      exact hc
  · exact h1.facts s hs
theorem Mem.freezeBlk {M' : List Ent} (h : Mem w0 [] M S w) {b : Nat} {t : TypeId} {cs : List Value} (hp : Pick M (.blk b t cs) M') : Mem w0 [] M' (cellsF ⟨b, 0, none⟩ cs :: S) w := by
  have hcells := h.at_blk hp.mem
  have hap := hp.apart h.apart
  have hnew := h.new _ hp.mem
  have h1 : Mem w0 [] M' S w := by
    refine ⟨h.os, h.tape, h.output, h.size, h.old, fun e he => h.own e (hp.sublist.subset he), fun e he => h.new e (hp.sublist.subset he), h.apart.sublist hp.sublist, fun s hs => s.mono _ _ (fun a v hv => ?_) (h.facts s hs)⟩
    simp only [rdF] at hv ⊢
    split at hv
    · rename_i hc
      have hin : inM M' a.block = false := by
        cases hm' : inM M' a.block
        · rfl
        · obtain ⟨e, he, hnum⟩ := inM_iff.1 hm'
          exact absurd hnum (inM_not hc.2 e (hp.sublist.subset he))
      rw [if_pos ⟨hc.1, hin⟩]; exact hv
    · cases hv
  refine { h1 with facts := fun s hs => ?_ }
  rcases List.mem_cons.1 hs with rfl | hs
  · show CellsAt _ ⟨b, 0, none⟩ cs
    intro j u hj
    have hc := hcells j u hj
    rw [add_lit] at hc ⊢
    simp only [rdF]
    rw [if_pos ⟨(hnew b rfl).resolve_right zz40, hap b rfl⟩]
    exact hc
  · exact h1.facts s hs
end
theorem elem_of {t e : TypeId} (h : P.underlying t = some (.slice e)) : P.elem t = e := by simp [Program.elem, h]
theorem elem_ofA {t e : TypeId} {N : Nat} (h : P.underlying t = some (.array N e)) : P.elem t = e ∧ P.arrayLen t = N := by simp [Program.elem, Program.arrayLen, h]
theorem q_sl_lh {t e : TypeId} {x l h : Operand} {a : Option Addr} {len cap : Nat} {kl kh : IntKind} {lo hi : Int} {z : Value} {sz by_ : Nat} (hu : P.underlying t = some (.slice e)) (he : TyI P e z sz by_)
    (hx : ev L x = some (.slice a len cap)) (hl : ev L l = some (.int kl lo)) (hh : ev L h = some (.int kh hi)) (h0 : 0 ≤ lo) (h1 : lo ≤ hi) (h2 : hi ≤ cap) (l' k' : Nat) (el : lo.toNat = l') (ek : hi.toNat = k') :
    QOp P n R L (.slice t x (some l) (some h) none) (sliced a l' k' cap sz) := by
  intro d ty pos af g ac w hs _
  subst el ek
  have hu' : P.underlying t = some (.slice (P.elem t)) := by rw [elem_of hu]; exact hu
  simp only [execOp, hs.eval hx, Option.map_some, Option.map_none, hs.eval hl, hs.eval hh]
  simp [run_sliceAt_slice w t _ _ _ _ hu', run_slice_lh w t a len cap hu' kl kh lo hi h0 h1 h2, elem_of hu, run_sz he]
theorem q_sl_h {t e : TypeId} {x h : Operand} {a : Option Addr} {len cap : Nat} {kh : IntKind} {hi : Int} {z : Value} {sz by_ : Nat} (hu : P.underlying t = some (.slice e)) (he : TyI P e z sz by_)
    (hx : ev L x = some (.slice a len cap)) (hh : ev L h = some (.int kh hi)) (h0 : 0 ≤ hi) (h2 : hi ≤ cap) (k' : Nat) (ek : hi.toNat = k') :
    QOp P n R L (.slice t x none (some h) none) (sliced a 0 k' cap sz) := by
  intro d ty pos af g ac w hs _
  subst ek
  have hu' : P.underlying t = some (.slice (P.elem t)) := by rw [elem_of hu]; exact hu
  simp only [execOp, hs.eval hx, Option.map_some, Option.map_none, hs.eval hh]
  simp [run_sliceAt_slice w t _ _ _ _ hu', run_slice_h w t a len cap hu' kh hi h0 h2, elem_of hu, run_sz he]
theorem q_sl_l {t e : TypeId} {x l : Operand} {a : Option Addr} {len cap : Nat} {kl : IntKind} {lo : Int} {z : Value} {sz by_ : Nat} (hu : P.underlying t = some (.slice e)) (he : TyI P e z sz by_)
    (hx : ev L x = some (.slice a len cap)) (hl : ev L l = some (.int kl lo)) (h0 : 0 ≤ lo) (h2 : lo ≤ len) (l' : Nat) (el : lo.toNat = l') :
    QOp P n R L (.slice t x (some l) none none) (sliced a l' len cap sz) := by
  intro d ty pos af g ac w hs _
  subst el
  have hu' : P.underlying t = some (.slice (P.elem t)) := by rw [elem_of hu]; exact hu
  simp only [execOp, hs.eval hx, Option.map_some, Option.map_none, hs.eval hl]
  simp [run_sliceAt_slice w t _ _ _ _ hu', run_slice_l w t a len cap hu' kl lo h0 h2, elem_of hu, run_sz he]
theorem q_sl_hm {t e : TypeId} {x h m : Operand} {a : Option Addr} {len cap : Nat} {kh km : IntKind} {hi mx : Int} {z : Value} {sz by_ : Nat} (hu : P.underlying t = some (.slice e)) (he : TyI P e z sz by_)
    (hx : ev L x = some (.slice a len cap)) (hh : ev L h = some (.int kh hi)) (hm : ev L m = some (.int km mx)) (h0 : 0 ≤ hi) (h1 : hi ≤ mx) (h2 : mx ≤ cap) (k' m' : Nat) (ek : hi.toNat = k') (em : mx.toNat = m') :
    QOp P n R L (.slice t x none (some h) (some m)) (sliced a 0 k' m' sz) := by
  intro d ty pos af g ac w hs _
  subst ek em
  have hu' : P.underlying t = some (.slice (P.elem t)) := by rw [elem_of hu]; exact hu
  simp only [execOp, hs.eval hx, Option.map_some, Option.map_none, hs.eval hh, hs.eval hm]
  simp [run_sliceAt_slice w t _ _ _ _ hu', run_slice_hm w t a len cap hu' kh km hi mx h0 h1 h2, elem_of hu, run_sz he]
theorem q_ar_lh {t e : TypeId} {N : Nat} {x l h : Operand} {ad : Addr} {kl kh : IntKind} {lo hi : Int} {z : Value} {sz by_ : Nat} (hu : P.underlying t = some (.array N e)) (he : TyI P e z sz by_)
    (hx : ev L x = some (.pointer (some ad))) (hl : ev L l = some (.int kl lo)) (hh : ev L h = some (.int kh hi)) (h0 : 0 ≤ lo) (h1 : lo ≤ hi) (h2 : hi ≤ N) (l' k' : Nat) (el : lo.toNat = l') (ek : hi.toNat = k') :
    QOp P n R L (.slice t x (some l) (some h) none) (slicedAt ad l' k' N sz) := by
  intro d ty pos af g ac w hs _
  subst el ek
  obtain ⟨e1, e2⟩ := elem_ofA hu
  have hu' : P.underlying t = some (.array (P.arrayLen t) (P.elem t)) := by rw [e1, e2]; exact hu
  simp only [execOp, hs.eval hx, Option.map_some, Option.map_none, hs.eval hl, hs.eval hh]
  simp [run_sliceAt_array_lh w t ad hu' kl kh lo hi h0 h1 (by rw [e2]; exact h2), e1, e2, run_sz he]
theorem q_ar_h {t e : TypeId} {N : Nat} {x h : Operand} {ad : Addr} {kh : IntKind} {hi : Int} {z : Value} {sz by_ : Nat} (hu : P.underlying t = some (.array N e)) (he : TyI P e z sz by_)
    (hx : ev L x = some (.pointer (some ad))) (hh : ev L h = some (.int kh hi)) (h0 : 0 ≤ hi) (h2 : hi ≤ N) (k' : Nat) (ek : hi.toNat = k') :
    QOp P n R L (.slice t x none (some h) none) (slicedAt ad 0 k' N sz) := by
  intro d ty pos af g ac w hs _
  subst ek
  obtain ⟨e1, e2⟩ := elem_ofA hu
  have hu' : P.underlying t = some (.array (P.arrayLen t) (P.elem t)) := by rw [e1, e2]; exact hu
  simp only [execOp, hs.eval hx, Option.map_some, Option.map_none, hs.eval hh]
  simp [run_sliceAt_array_h w t ad hu' kh hi h0 (by rw [e2]; exact h2), e1, e2, run_sz he]
theorem q_ar_l {t e : TypeId} {N : Nat} {x l : Operand} {ad : Addr} {kl : IntKind} {lo : Int} {z : Value} {sz by_ : Nat} (hu : P.underlying t = some (.array N e)) (he : TyI P e z sz by_)
    (hx : ev L x = some (.pointer (some ad))) (hl : ev L l = some (.int kl lo)) (h0 : 0 ≤ lo) (h2 : lo ≤ N) (l' : Nat) (el : lo.toNat = l') :
    QOp P n R L (.slice t x (some l) none none) (slicedAt ad l' N N sz) := by
  intro d ty pos af g ac w hs _
  subst el
  obtain ⟨e1, e2⟩ := elem_ofA hu
  have hu' : P.underlying t = some (.array (P.arrayLen t) (P.elem t)) := by rw [e1, e2]; exact hu
  simp only [execOp, hs.eval hx, Option.map_some, Option.map_none, hs.eval hl]
  simp [run_sliceAt_array_l w t ad hu' kl lo h0 (by rw [e2]; exact h2), e1, e2, run_sz he]
theorem q_ar_all {t e : TypeId} {N : Nat} {x : Operand} {ad : Addr} {z : Value} {sz by_ : Nat} (hu : P.underlying t = some (.array N e)) (he : TyI P e z sz by_)
    (hx : ev L x = some (.pointer (some ad))) : QOp P n R L (.slice t x none none none) (slicedAt ad 0 N N sz) := by
  intro d ty pos af g ac w hs _
  obtain ⟨e1, e2⟩ := elem_ofA hu
  have hu' : P.underlying t = some (.array (P.arrayLen t) (P.elem t)) := by rw [e1, e2]; exact hu
  simp only [execOp, hs.eval hx, Option.map_some, Option.map_none]
  simp [run_sliceAt_array_all w t ad hu', e1, e2, run_sz he]
def evp (L : Slots) : List (Nat × Operand) → Option (List (Nat × Value))
  | [] => some []
  | (i, x) :: r => match ev L x, evp L r with
    | some v, some vs => some ((i, v) :: vs)
    | _, _ => none
theorem evp_eval {a : Act} (hs : Sl n a L) : ∀ {xs : List (Nat × Operand)} {vs : List (Nat × Value)}, evp L xs = some vs → xs.map (fun p => (p.1, a.eval p.2)) = vs
  | [], vs, h => by simp [evp] at h; subst h; rfl
  | (i, x) :: r, vs, h => by
    simp only [evp] at h
    split at h
    · rename_i v us hv hus
      cases h
      simp [hs.eval hv, evp_eval hs hus]
    · cases h
theorem q_build {t : TypeId} {parts : Array (Nat × Operand)} {vs : List (Nat × Value)} {cs : List Value} (hv : evp L parts.toList = some vs) (hf : P.built t vs = some cs.toArray) : QOp P n R L (.build t parts) (.agg cs.toArray) := by
  intro d ty pos af g ac w hs _
  have he : (parts.map fun (i, x) => (i, ac.eval x)).toList = vs := by rw [Array.toList_map]; exact evp_eval hs hv
  have := run_build (P := P) w t (parts.map fun (i, x) => (i, ac.eval x)) cs.toArray (by rw [he]; exact hf)
  simp only [execOp, Sem.run_bind, this]
  simp [pure]
theorem built_struct {t : TypeId} {fs : Array Field} {z : Value} {sz by_ : Nat} {pl : List (Nat × Nat)} {vs : List (Nat × Value)} {cs : Array Value} (hu : P.underlying t = some (.struct fs)) (ht : TyI P t z sz by_)
    (hp : fs.toList.mapM (fun f => (P.info? f.type).map fun i => (f.offset, i.size)) = some pl) (hf : Instr.fill (pl.toArray[·]?) z.cells vs = some cs) : P.built t vs = some cs := by
  obtain ⟨i, hi, hz, hs, _⟩ := ht.info
  simp only [Program.built, hi, hu, hz, hp]
  exact hf
theorem built_array {t e : TypeId} {N : Nat} {z ze : Value} {sz by_ se be : Nat} {vs : List (Nat × Value)} {cs : Array Value} (hu : P.underlying t = some (.array N e)) (ht : TyI P t z sz by_) (he : TyI P e ze se be)
    (hf : Instr.fill (fun i => some (i * se, se)) z.cells vs = some cs) : P.built t vs = some cs := by
  obtain ⟨i, hi, hz, hs, _⟩ := ht.info
  obtain ⟨i', hi', hz', hs', _⟩ := he.info
  subst hs'
  simp only [Program.built, hi, hu, hz, hi']
  exact hf
theorem q_buildFull {t e N : Nat} {parts : Array (Nat × Operand)} {z ze : Value} {by_ be : Nat} (cs : List Value) (hu : P.underlying t = some (.array N e)) (ht : TyI P t z N by_) (he : TyI P e ze 1 be) (hzc : z.cells.size = N) (hl : cs.length = N)
    (h1 : ∀ v ∈ cs, v.oneCell' = true) (hv : evp L parts.toList = some ((cs.zipIdx 0).map fun x => (x.2, x.1))) : QOp P n R L (.build t parts) (.agg cs.toArray) := by
  refine q_build hv (built_array hu ht he ?_)
  simp only [Nat.mul_one]
  have := Great.fill_flat cs z.cells (fun v hv => by have := h1 v hv; cases v <;> first | rfl | simp [Value.oneCell'] at this) (by rw [hzc]; exact hl)
  simpa using this
section
variable {w0 : World} {Ln : List Nat} {M : List Ent} {S : List Fact}
theorem Mem.allocRow {w : World} (h : Mem w0 Ln M S w) (e : TypeId) (cs : List Value) (N cap sz : Nat) (xs : List Value) (hl : cs.length = cap * sz) (hN : N ≤ cap) (hc : cap ≤ maxLen) (hx : cs.take (N * sz) = xs) :
    Mem w0 Ln (.row (.slice (some ⟨w.heap.size, 0, none⟩) N cap) N e sz xs :: M) S (w.alloc (.cells cs.toArray e)) := by
  subst hx
  have h1 := h.alloc e cs
  have h2 := h1.toRow (.here) (N := cap) (sz := sz) hl hc
  have hb : N * sz ≤ cap * sz := Nat.mul_le_mul_right _ hN
  exact h2.cutRow (.here) hN
theorem made_list (z : Array Value) (sz : Nat) (hz : z.size = sz) (k : Nat) : (madeCells z (k * sz)).toList = (List.replicate k z.toList).flatten := by
  apply List.ext_getElem?
  intro j
  induction k generalizing j with
  | zero => simp [madeCells]
  | succ k ih =>
    rw [List.replicate_succ, List.flatten_cons]
    by_cases h1 : j < sz
    · rw [List.getElem?_append_left (by simpa [hz] using h1)]
      have h2 : j < (k + 1) * sz := by rw [Nat.succ_mul]; omega
      have h3 : j < z.size := by omega
      simp [madeCells, h2, Nat.mod_eq_of_lt h3, h3]
    · rw [List.getElem?_append_right (by simpa [hz] using h1)]
      simp only [Array.length_toList, hz]
      rw [← ih]
      by_cases h2 : j < (k + 1) * sz
      · have h3 : j - sz < k * sz := by rw [Nat.succ_mul] at h2; omega
        have h4 : j % sz = (j - sz) % sz := by rw [Nat.mod_eq_sub_mod zz12]
        simp [madeCells, h2, h3, hz, h4]
      · have h3 : ¬ j - sz < k * sz := by rw [Nat.succ_mul] at h2; omega
        simp [madeCells, h2, h3]
theorem t_buildSlice {t e : TypeId} {len : Nat} {parts : Array (Nat × Operand)} {vs : List (Nat × Value)} (cs : List Value) {z : Value} {sz by_ : Nat} (hu : P.underlying t = some (.slice e)) (he : TyI P e z sz by_)
    (hv : evp L parts.toList = some vs) (hsmall : len * sz ≤ 2 ^ 24) (hpos : 0 < len * sz) (hz1 : z.cells.size = sz)
    (hf : Instr.fill (fun i => some (i * sz, sz)) ((List.replicate len z.cells.toList).flatten).toArray vs = some cs.toArray) (hl : cs.length = len * sz) :
    TOp P Q n (Mem w0 Ln M S) L (.buildSlice t len parts) Nat (fun b => .slice (some ⟨b, 0, none⟩) len len) (fun b => Mem w0 Ln (.row (.slice (some ⟨b, 0, none⟩) len len) len e sz cs :: M) S) := by
  intro d ty pos af g a w K hs hr hk
  obtain ⟨i, hi, hz, hsz, _⟩ := he.info
  subst hsz
  have hev : (parts.map fun (i, x) => (i, a.eval x)).toList = vs := by rw [Array.toList_map]; exact evp_eval hs hv
  have hmade : ((Array.range (len * i.size)).map (z.cells[· % z.cells.size]!)) = ((List.replicate len z.cells.toList).flatten).toArray := by
    have := made_list z.cells i.size hz1 len
    apply Array.ext'
    exact this
  have hrun := run_buildSlice (P := P) w t e len (parts.map fun (i, x) => (i, a.eval x)) cs.toArray i z hu hi hz zz12 zz12 (by rw [hev, hmade]; exact hf)
  have hlen : len ≤ maxLen := by
    have : len ≤ len * i.size := Nat.le_mul_of_pos_right _ (Nat.pos_of_ne_zero (fun h => by rw [h] at hpos; omega))
    simp only [maxLen]; omega
  have h := hk w.heap.size (w.alloc (.cells cs.toArray e)) (hr.allocRow e cs len len i.size cs hl (Nat.le_refl _) hlen (by rw [← hl]; exact List.take_length ..))
  have hrun' : (execOp a.eval ⟨d, .buildSlice t len parts, ty, pos, af, g⟩).run P w = .ok (.value (.slice (some ⟨w.heap.size, 0, none⟩) len len)) (w.alloc (.cells cs.toArray e)) := by
    simp only [execOp, Sem.run_bind, hrun]
    simp [pure]
  unfold Oper.wp
  rw [hrun']
  exact h
theorem t_buildSlice0 {t e : TypeId} {z : Value} {sz by_ : Nat} (hu : P.underlying t = some (.slice e)) (he : TyI P e z sz by_) :
    TOp P Q n (Mem w0 Ln M S) L (.buildSlice t 0 #[]) Nat (fun b => .slice (some ⟨b, 0, none⟩) 0 0) (fun b => Mem w0 Ln (.row (.slice (some ⟨b, 0, none⟩) 0 0) 0 e sz [] :: M) S) := by
  intro d ty pos af g a w K hs hr hk
  have h := hk w.heap.size (w.alloc (.cells #[] e)) (hr.allocRow e [] 0 0 sz [] zz40 (Nat.le_refl _) (Nat.zero_le _) zz40)
  have hrun' : (execOp a.eval ⟨d, .buildSlice t 0 #[], ty, pos, af, g⟩).run P w = .ok (.value (.slice (some ⟨w.heap.size, 0, none⟩) 0 0)) (w.alloc (.cells #[] e)) := by
    simp [execOp, Instr.buildSlice, run_underlying hu, run_sz he, Instr.fill, newRow, Array.range_zero']
  unfold Oper.wp
  rw [hrun']
  exact h
theorem t_makeSlice {t e : TypeId} {x y : Operand} {kl kc : IntKind} {l c : Int} {z : Value} {sz by_ : Nat} (hu : P.underlying t = some (.slice e)) (he : TyI P e z sz by_) (hx : ev L x = some (.int kl l)) (hy : ev L y = some (.int kc c))
    (h0 : 0 ≤ l) (hlc : l ≤ c) (hb : (by_ : Int) * c ≤ 281474976710656) (h63 : c ≤ 9223372036854775807) (l' c' : Nat) (el : l.toNat = l') (ec : c.toNat = c') (xs : List Value) (hz1 : z.cells.size = sz) (hxs : (List.replicate l' z.cells.toList).flatten = xs) :
    TOp P Q n (Mem w0 Ln M S) L (.makeSlice t x y) Nat (fun b => .slice (some ⟨b, 0, none⟩) l' c') (fun b => Mem w0 Ln (.row (.slice (some ⟨b, 0, none⟩) l' c') l' e sz xs :: M) S) := by
  intro d ty pos af g a w K hs hr hk
  obtain ⟨i, hi, hz, hsz, hby⟩ := he.info
  subst hsz hby el ec
  rw [← made_list z.cells i.size hz1] at hxs
  subst hxs
  have hrun := run_make (P := P) w t e i z hu hi hz kl kc l c h0 hlc hb h63
  have h1 : l.toNat * i.size ≤ c.toNat * i.size := Nat.mul_le_mul_right _ zz12
  have h := hk w.heap.size (w.alloc (.cells (madeCells z.cells (c.toNat * i.size)) e)) (by
    have := hr.allocRow e (madeCells z.cells (c.toNat * i.size)).toList l.toNat c.toNat i.size (madeCells z.cells (l.toNat * i.size)).toList (by simp [size_madeCells]) zz12 (by simp only [maxLen]; omega) (by
      apply List.ext_getElem?
      intro j
      rw [List.getElem?_take]
      by_cases hj : j < l.toNat * i.size
      · have hj2 : j < c.toNat * i.size := by omega
        rw [if_pos hj]; simp [madeCells, hj, hj2]
      · rw [if_neg hj]; simp [madeCells, hj])
    simpa using this)
  have hrun' : (execOp a.eval ⟨d, .makeSlice t x y, ty, pos, af, g⟩).run P w = .ok (.value (.slice (some ⟨w.heap.size, 0, none⟩) l.toNat c.toNat)) (w.alloc (.cells (madeCells z.cells (c.toNat * i.size)) e)) := by
    simp only [execOp, hs.eval hx, hs.eval hy, Sem.run_bind, hrun]
    simp [pure]
  unfold Oper.wp
  rw [hrun']
  exact h
theorem Mem.grown {w w' : World} {M' : List Ent} {v v' : Value} {m m' : Nat} {e : TypeId} {sz : Nat} {xs xs' : List Value} (h : Mem w0 Ln M S w) (hr : Repl M (.row v m e sz xs) (.row v' m' e sz xs') M') (hg : w.grownBy w' v.ownBlock) (ho : w'.ownsRow 0 e sz v' m' xs')
    (hb : ∀ k, v'.ownBlock = some k → v.ownBlock = some k ∨ w.heap.size ≤ k) : Mem w0 Ln M' S w' :=
  h.turn hr hg.os hg.tape hg.output hg.size (fun k hk hn => hg.block k hk (fun e => hn e.symm)) ho hb
theorem t_append {t e : TypeId} {s x : Operand} {v u : Value} {m k : Nat} {xs news : List Value} {f : Ent → List Ent} {z : Value} {sz by_ : Nat} (hu : P.underlying t = some (.slice e)) (he : TyI P e z sz by_) (hz1 : z.cells.size = sz) (hsz : 0 < sz)
    (hs_ : ev L s = some v) (hx : ev L x = some u) [hr : ReplV M v m e sz xs f] (hsrc : ∀ w, Mem w0 Ln M S w → Seen w.cell? u k sz news) (h1 : ∀ u ∈ news, u.oneCell' = true)
    (h63 : m + k ≤ maxLen) (hby : (m + k) * by_ ≤ 140737488355328) :
    TOp P Q n (Mem w0 Ln M S) L (.call { callee := .builtin .append, args := #[s, x], argTypes := #[t, t] }) Value (fun v' => v') (fun v' => Mem w0 Ln (f (.row v' (m + k) e sz (xs ++ news))) S) := by
  intro d ty pos af g a w K hs hm hk
  obtain ⟨i, hi, hz, hsz', hby'⟩ := he.info
  have hown : w.ownsRow 0 e sz v m xs := hm.own _ (hr.out (.blk 0 0 [])).mem
  obtain ⟨q1, ad, cap, rfl, q3, q4, q5⟩ := hsrc w hm
  have key : ∃ v' w', (Builtin.append_ #[t, t] ty #[v, .slice ad k cap]).run P w = .ok v' w' ∧ w'.ownsRow 0 e sz v' (m + k) (xs ++ news) ∧ w.grownBy w' v.ownBlock ∧ (∀ b, v'.ownBlock = some b → v.ownBlock = some b ∨ w.heap.size ≤ b) := by
    rcases q5 with ⟨rfl, rfl⟩ | ⟨ad', rfl, hc⟩
    · obtain rfl : k = 0 := by omega
      obtain rfl : news = [] := List.eq_nil_of_length_eq_zero (by simpa using q1)
      exact ⟨v, w, run_append_owned_none w 0 t ty e i sz hu hi v m xs hown, by simpa using hown, ⟨rfl, rfl, rfl, Nat.le_refl _, fun _ _ _ => rfl⟩, fun b hb => .inl hb⟩
    · obtain ⟨v', w', r1, r2, r3, r4⟩ := run_append_own (P := P) w 0 t ty e i z sz by_ hu hi hz hsz' hby' hz1 hsz v m xs hown ad' k cap news q1 hc h1 h63 hby (Nat.zero_le _)
      refine ⟨v', w', r1, r2, r3, ?_⟩
      intro b hb
      rcases hown.2 with ⟨rfl, rfl⟩ | ⟨g, cp, cur, rfl, _, hg, hnc, hcm, hcs, htake⟩
      · obtain ⟨v2, w2, e1, e2, _⟩ := run_append_own (P := P) w w.heap.size t ty e i z sz by_ hu hi hz hsz' hby' hz1 hsz (.slice none 0 0) 0 [] (World.ownsRow_nil w _ e sz) ad' k cap news q1 hc h1 zz12 (by simpa using hby) (Nat.le_refl _)
        rw [e1] at r1
        simp only [Result.ok.injEq] at r1
        obtain ⟨rfl, rfl⟩ := r1
        exact .inr (e2.lt b hb).1
      · by_cases hroom : m + k ≤ cp
        · obtain ⟨w2, e1, _⟩ := run_append_fits (P := P) w 0 t ty e i sz hu hi hsz' g m cp xs hown ad' k cap news q1 hc h1 hroom
          rw [e1] at r1
          simp only [Result.ok.injEq] at r1
          obtain ⟨rfl, rfl⟩ := r1
          exact .inl hb
        · subst hsz' hby'
          have e1 := run_append_grow (P := P) w t ty e i z hu hi hz ⟨g, 0, none⟩ m cp xs hown.1 (hown.cells (g := g) rfl) ad' k cap news q1 hc zz12 (by simp only [maxLen] at h63; omega) (growslice_fits zz12 hby)
          rw [e1] at r1
          simp only [Result.ok.injEq] at r1
          obtain ⟨rfl, rfl⟩ := r1
          simp [Value.ownBlock] at hb
          exact .inr zz12
  obtain ⟨v', w', r1, r2, r3, r4⟩ := key
  have hrun : (execOp a.eval ⟨d, .call { callee := .builtin .append, args := #[s, x], argTypes := #[t, t] }, ty, pos, af, g⟩).run P w = .ok (.value v') w' := by
    simp only [execOp, resolve, invoke, builtin, Sem.run_bind, Sem.run_pure, Result.andThen_ok, List.map_toArray, List.map_cons, List.map_nil, hs.eval hs_, hs.eval hx, r1]
  unfold Oper.wp
  rw [hrun]
  exact hk v' w' (hm.grown (hr.out _) r3 r2 r4)
end
theorem t_copy {w0 : World} {Ln : List Nat} {M : List Ent} {S : List Fact} {dT sT e : TypeId} {x y : Operand} {b o dl dc m : Nat} {u : Value} {vs : List Value} {t : TypeId} {cs : List Value} {f : List Value → List Ent} {z : Value} {by_ : Nat} (hu : P.underlying dT = some (.slice e)) (he : TyI P e z 1 by_)
    (hx : ev L x = some (.slice (some ⟨b, o, none⟩) dl dc)) (hy : ev L y = some u) [hr : ReplB M b t cs f] (hsrc : ∀ w, Mem w0 Ln M S w → Seen w.cell? u m 1 vs) (h1 : ∀ v ∈ vs, v.oneCell' = true) (hfit : o + dl ≤ cs.length) (q : Nat) (hq : min m dl = q) (cs' : List Value)
    (hcs : cs.take o ++ vs.take q ++ cs.drop (o + q) = cs') :
    TOp P Q n (Mem w0 Ln M S) L (.call { callee := .builtin .copy, args := #[x, y], argTypes := #[dT, sT] }) Unit (fun _ => .int .i64 (q : Nat)) (fun _ => Mem w0 Ln (f cs') S) := by
  intro d ty pos af g a w K hs hm hk
  subst hcs
  obtain ⟨i, hi, hz, hsz, _⟩ := he.info
  have hb : w.heap[b]? = some (.cells cs.toArray t (0, 0)) := hm.own _ (hr.out cs).mem
  obtain ⟨q1, ad, cap, rfl, q3, q4, q5⟩ := hsrc w hm
  have hrun : (Builtin.copy_ #[dT, sT] ty #[.slice (some ⟨b, o, none⟩) dl dc, .slice ad m cap]).run P w = .ok (.int .i64 (q : Nat)) (w.setRow b (cs.take o ++ vs.take q ++ cs.drop (o + q)).toArray) := by
    rcases q5 with ⟨rfl, rfl⟩ | ⟨ad', rfl, hc⟩
    · obtain rfl : m = 0 := by omega
      have e0 : q = 0 := by omega
      subst e0
      have := run_copy_nil (P := P) w dT sT ty e ⟨b, o, none⟩ dl dc hu (by simp [hi])
      rw [this]
      simp only [Nat.add_zero, List.take_zero, List.append_nil, List.take_append_drop]
      rw [setRow_self w b cs.toArray t (0, 0) hb]
      rfl
    · have hl : (vs.take q).length = q := by rw [List.length_take, q1]; omega
      have := run_copy_row (P := P) w dT sT ty e b o dl dc ad' m cap cs.toArray t (vs.take q) hu (by simp [hi, hsz]) hb (hl.trans hq.symm)
        (fun j v hj => hc j v (by rw [List.getElem?_take] at hj; split at hj <;> first | exact hj | cases hj)) (by rw [hl]; simp; omega) (fun v hv => h1 v (List.mem_of_mem_take hv))
      rw [this]
      rw [hl]
      rfl
  have hrun' : (execOp a.eval ⟨d, .call { callee := .builtin .copy, args := #[x, y], argTypes := #[dT, sT] }, ty, pos, af, g⟩).run P w = .ok (.value (.int .i64 (q : Nat))) (w.setRow b (cs.take o ++ vs.take q ++ cs.drop (o + q)).toArray) := by
    simp only [execOp, resolve, invoke, builtin, Sem.run_bind, Sem.run_pure, Result.andThen_ok, List.map_toArray, List.map_cons, List.map_nil, hs.eval hx, hs.eval hy, hrun]
  unfold Oper.wp
  rw [hrun']
  exact hk () _ (hm.setBlk (hr.out _))
theorem slicedAt_lt (b o k N : Nat) (h : o < N) : slicedAt ⟨b, 0, none⟩ o k N 1 = .slice (some ⟨b, o, none⟩) (k - o) (N - o) := by
  unfold slicedAt
  rw [if_neg zz12, add_lit]
  simp
theorem q_idxV {t e N : Nat} {x i : Operand} {cs : List Value} {k : IntKind} {m : Int} {z v : Value} {by_ : Nat} {d : TypeDesc} (hu : P.underlying t = some (.array N e)) (he : TyI P e z 1 by_) (hd : P.underlying e = some d) (ha : isAggD d = false)
    (hx : ev L x = some (.agg cs.toArray)) (hi : ev L i = some (.int k m)) (h0 : 0 ≤ m) (h1 : m < N) (j : Nat) (hj : m.toNat = j) (hv : cs[j]? = some v) : QOp P n R L (.index t x i) v := by
  intro d' ty pos af g a w hs _
  subst hj
  have hp : (part e cs.toArray (m.toNat * 1)).run P w = .ok v w := by
    unfold part
    simp [run_agg hd, ha, hv, run_sz he]
  simp only [execOp, hs.eval hx, hs.eval hi]
  simp [Instr.index, asIntOf, run_underlying hu, h0, h1, run_sz he] at hp ⊢
  simp [hp]
theorem q_s2a {t e N : Nat} {x : Operand} {a : Option Addr} {len cap : Nat} (hu : P.underlying t = some (.array N e)) (hx : ev L x = some (.slice a len cap)) (hl : N ≤ len) : QOp P n R L (.sliceToArrayPointer t x) (.pointer a) := by
  intro d' ty pos af g ac w hs _
  simp only [execOp, hs.eval hx]
  simp [Instr.arrayAt, run_underlying hu, Nat.not_lt.2 hl]
theorem Mem.at_oldL {w0 w : World} {Ln : List Nat} {M : List Ent} {S : List Fact} (h : Mem w0 Ln M S w) {a : Addr} {vs : List Value} (hv : CellsAt w0.cell? a vs) (hl : a.block ∉ Ln) : CellsAt w.cell? a vs := fun j u hj =>
  h.cell_oldL (hv j u hj) (by have : (a.add j).block = a.block := by unfold Addr.add; split <;> rfl
                              rw [this]; exact hl)
theorem Seen.block_lt {w : World} {v : Value} {m sz : Nat} {vs : List Value} (h : Seen w.cell? v m sz vs) (hne : vs ≠ []) : ∀ k, v.ownBlock = some k → k < w.heap.size := by
  intro k hk
  obtain ⟨h1, a, cap, rfl, h3, h4, h5⟩ := h
  rcases h5 with ⟨rfl, _⟩ | ⟨ad, rfl, h6⟩
  · simp [Value.ownBlock] at hk
  · simp [Value.ownBlock] at hk
    subst hk
    cases vs with
    | nil => exact absurd rfl hne
    | cons x r =>
      have := h6 0 x rfl
      rw [addr_add_zero] at this
      exact World.block_lt_of_cell? w ad this
theorem Mem.at2 {w0 w : World} {b nb : Nat} {M : List Ent} {S : List Fact} (h : Mem w0 [b, nb] M S w) {v : Value} {m sz : Nat} {vs : List Value} (hv : Seen w0.cell? v m sz vs) (hb : ∀ k, v.ownBlock = some k → vs ≠ [] → k ≠ b ∧ k ≠ nb) : Seen w.cell? v m sz vs := by
  obtain ⟨h1, a, cap, rfl, h3, h4, h5⟩ := hv
  refine ⟨h1, a, cap, rfl, h3, h4, ?_⟩
  rcases h5 with h5 | ⟨ad, rfl, h6⟩
  · exact .inl h5
  · refine .inr ⟨ad, rfl, ?_⟩
    by_cases hn : vs = []
    · subst hn; intro j u hj; simp at hj
    · exact h.at_oldL h6 (by have := hb ad.block rfl hn; simp; exact this)
theorem Mem.seen_oldL {w0 w : World} {Ln : List Nat} {M : List Ent} {S : List Fact} (h : Mem w0 Ln M S w) {v : Value} {m sz : Nat} {vs : List Value} (hv : Seen w0.cell? v m sz vs) (hb : ∀ k, v.ownBlock = some k → vs ≠ [] → k ∉ Ln) : Seen w.cell? v m sz vs := by
  obtain ⟨h1, a, cap, rfl, h3, h4, h5⟩ := hv
  refine ⟨h1, a, cap, rfl, h3, h4, ?_⟩
  rcases h5 with h5 | ⟨ad, rfl, h6⟩
  · exact .inl h5
  · refine .inr ⟨ad, rfl, ?_⟩
    by_cases hn : vs = []
    · subst hn; intro j u hj; simp at hj
    · exact h.at_oldL h6 (hb ad.block rfl hn)
theorem wpc_ex {ι : Type} {p : ι → Prop} {R' : ι → World → Prop} {c : Code} (h : ∀ w, R w → ∃ x, p x ∧ R' x w) (k : ∀ x, p x → WPC P Q n (R' x) L c) : WPC P Q n R L c := fun a w hs hr => by
  obtain ⟨x, hp, hr'⟩ := h w hr
  exact k x hp a w hs hr'
def GivesL {ι : Type} (w : World) (Ln : List Nat) (V : ι → Value) (N : ι → List Ent) (e : Ending) (w' : World) : Prop := ∃ x, e = .returned (V x) ∧ Mem w Ln (N x) [] w'
instance nop_givesL {fn : Func} {w : World} {ι : Type} {Ln : List Nat} {V : ι → Value} {N : ι → List Ent} : NoP (bodyPost P fn (GivesL w Ln V N)) := nop_post fun c w' ⟨x, h, _⟩ => by cases h
theorem t_turn1 {w0 : World} {Ln : List Nat} {M : List Ent} {S : List Fact} {k : FuncId} {args : Array Operand} {at_ : Array TypeId} {vs : List Value} {v : Value} (b : Nat) {t : TypeId} {cs cs' : List Value} {f : List Value → List Ent} [hr : ReplB M b t cs f] (hb : HasBody P k)
    (hv : evs L args.toList = some vs) (hc : ∀ w, Mem w0 Ln M S w → w.heap[b]? = some (.cells cs.toArray t (0, 0)) → Calls P k vs.toArray w (GivesL w [b] (fun _ : Unit => v) fun _ => [.blk b t cs'])) :
    TOp P Q n (Mem w0 Ln M S) L (.call { callee := .value (.func k), args := args, argTypes := at_ }) Unit (fun _ => v) (fun _ => Mem w0 Ln (f cs') S) :=
  t_callG (cap := #[]) rfl hb hv fun w hm => by
    simp only [Array.append_empty]
    refine (hc w hm (hm.own _ (hr.out cs).mem)).mono ?_
    rintro e w' ⟨_, rfl, h2⟩
    exact ⟨(), rfl, hm.lent1 (hr.out cs') h2⟩
end
end Go.PL
namespace Go.PL
open Go Go.RowKit
structure Open (F : Fence) : Prop where
  fn : ∀ f, F.fn f
  depth : F.depth = none
  calls : ∀ (P : Program) (f : FuncId) (args : Array Value) (w : World) (R : Ending → World → Prop), Calls P f args w R → CallsIn F 0 P f args w R
  rows : ∀ (P : Program) (r : String) (args : Array Value) (w : World) (R : Value → World → Prop), Rows P r args w R → RowsIn F 0 P r args w R
theorem open_wide : Open Fence.wide := ⟨fun _ => trivial, rfl, fun P f args w R h => callsIn_wide.2 h, fun P r args w R h c cs hr => by
  obtain ⟨v, w', hR, hs⟩ := h c cs
  exact ⟨v, w', hR, stepsIn_wide.2 hs⟩⟩
theorem open_round (l : Nat) : Open (Fence.wide.inRound l) := ⟨fun _ => trivial, rfl, fun P f args w R h => CallsIn.inRound l (callsIn_wide.2 h), fun P r args w R h c cs hr => by
  obtain ⟨v, w', hR, hs⟩ := h c cs
  exact ⟨v, w', hR, stepsIn_wide.2 hs⟩⟩
section
variable {F : Fence} {P : Program} {n : Cx} {R : World → Prop} {L : Slots} {Q : Exit → Act → World → Prop} {ops : Array Oper} {rest : List Oper} {op : Op} {ty : TypeId} {pos : String} {af : Array Edge} {d : Tmp}
theorem wpIn_of_wp (hF : Open F) {o : Oper} {a : Act} {w : World} {K : Act → World → Prop} (hd : ∀ c, o.op ≠ .defer c) (h : o.wp P a w K Q) : o.wpIn F 0 P a w K Q := by
  refine ⟨fun f _ => hF.fn f, ?_⟩
  rw [Oper.semAt_eq _ _ _ hd]
  unfold Oper.wp at h
  have hdep : F.depth.isSome = true → 1 ≤ 0 := fun e => by rw [hF.depth] at e; cases e
  generalize (execOp a.eval o).run P w = r at h
  unfold Oper.upon at h
  unfold Oper.uponIn
  split at h
  · exact h
  · exact h
  · exact h
  · exact ⟨hdep, hF.calls _ _ _ _ _ h⟩
  · exact ⟨hdep, hF.rows _ _ _ _ _ h⟩
  · exact h
  · exact h.elim
def WPLI (F : Fence) (P : Program) (ops : Array Oper) (Q : Exit → Act → World → Prop) (n : Cx) (R : World → Prop) (L : Slots) (rest : List Oper) : Prop :=
  ∀ a w, Sl n a L → R w → wpListIn F 0 P ops Q rest a w
def WPCI (F : Fence) (P : Program) (Q : Exit → Act → World → Prop) (n : Cx) (R : World → Prop) (L : Slots) (c : Code) : Prop :=
  ∀ a w, Sl n a L → R w → c.wpIn F 0 P Q a w
theorem wpli_t (hF : Open F) {ι : Type} {V : ι → Value} {R' : ι → World → Prop} (hop : TOp P Q n R L op ι V R') (hd : Nat.blt d n.n = true) (next : ∀ x, WPLI F P ops Q n (R' x) ((d, V x) :: L) rest) (hdf : ∀ c, op ≠ .defer c := by intro c h; cases h) :
    WPLI F P ops Q n R L (⟨some d, op, ty, pos, af, none⟩ :: rest) := by
  intro a w hs hr
  unfold wpListIn
  simp only [Region.wanted, if_true]
  exact wpIn_of_wp hF hdf (hop _ _ _ _ _ a w _ hs hr fun x w' h' => next x _ _ (hs.put hd (V x)) h')
theorem wpli_t0 (hF : Open F) {ι : Type} {V : ι → Value} {R' : ι → World → Prop} (hop : TOp P Q n R L op ι V R') (next : ∀ x, WPLI F P ops Q n (R' x) L rest) (hdf : ∀ c, op ≠ .defer c := by intro c h; cases h) :
    WPLI F P ops Q n R L (⟨none, op, ty, pos, af, none⟩ :: rest) := by
  intro a w hs hr
  unfold wpListIn
  simp only [Region.wanted, if_true]
  exact wpIn_of_wp hF hdf (hop _ _ _ _ _ a w _ hs hr fun x w' h' => next x _ _ hs h')
theorem wpli_q (hF : Open F) {v : Value} (hop : QOp P n R L op v) (hd : Nat.blt d n.n = true) (next : WPLI F P ops Q n R ((d, v) :: L) rest) (hdf : ∀ c, op ≠ .defer c := by intro c h; cases h) :
    WPLI F P ops Q n R L (⟨some d, op, ty, pos, af, none⟩ :: rest) := wpli_t hF (hop.top (Q := Q)) hd (fun _ => next) hdf
theorem wpli_nil (h : EX Q .normal n R L) : WPLI F P ops Q n R L [] := fun a w hs hr => h a w hs hr
theorem wpli_fact {p : Prop} (h : ∀ w, R w → p) (k : p → WPLI F P ops Q n R L rest) : WPLI F P ops Q n R L rest := fun a w hs hr => k (h w hr) a w hs hr
theorem wpci_fact {c : Code} {p : Prop} (h : ∀ w, R w → p) (k : p → WPCI F P Q n R L c) : WPCI F P Q n R L c := fun a w hs hr => k (h w hr) a w hs hr
theorem wpli_yield {x : Operand} {args : Array Operand} {at_ : Array TypeId} {l : Nat} {vs : List Value} {ι : Type} {V : ι → Value} {R' : ι → World → Prop} (hx : ev L x = some (.func (.yield l) #[] #[])) (hv : evs L args.toList = some vs)
    (hy : ∀ w, R w → YieldAt Fence.wide 0 P l vs.toArray w fun e w' => ∃ i, e = .returned (V i) ∧ R' i w') (hd : Nat.blt d n.n = true) (next : ∀ i, WPLI Fence.wide P ops Q n (R' i) ((d, V i) :: L) rest) :
    WPLI Fence.wide P ops Q n R L (⟨some d, .call { callee := .value x, args := args, argTypes := at_ }, ty, pos, af, none⟩ :: rest) := by
  intro a w hs hr
  have hargs : args.map a.eval = vs.toArray := by
    have e : (args.map a.eval).toList = vs := by rw [Array.toList_map]; exact evs_eval hs hv
    rw [← e]
  obtain ⟨fn, tmps, assign, body, hrun, hround⟩ := hy w hr
  unfold wpListIn
  simp only [Region.wanted, if_true]
  refine ⟨fun f _ => trivial, ?_⟩
  have hrun' : (execOp a.eval ⟨some d, .call { callee := .value x, args := args, argTypes := at_ }, ty, pos, af, none⟩).run P w = .ok (.round l fn tmps assign body) w := by
    simp only [execOp, resolve, hs.eval hx, hargs]
    simp [Deferred.ofValue, invoke, hrun]
  have hsem : Oper.semAt Fence.wide.round a.eval ⟨some d, .call { callee := .value x, args := args, argTypes := at_ }, ty, pos, af, none⟩ = execOp a.eval ⟨some d, .call { callee := .value x, args := args, argTypes := at_ }, ty, pos, af, none⟩ := rfl
  rw [hsem, hrun']
  refine ⟨fun e => by simp [Fence.wide] at e, ?_⟩
  refine RoundIn.mono hround ?_
  rintro e w' ⟨i, rfl, h'⟩
  exact next i _ _ (hs.put hd (V i)) h'
theorem wpci_region {id : Nat} {l : List Oper} (h : WPLI F P l.toArray Q n R L l) : WPCI F P Q n R L (.region id l.toArray false) := by
  intro a w hs hr
  refine wpIn_region ?_
  have := h a w hs hr
  have e := wpOpsIn_eq_wpListIn (F := F) (n := 0) (P := P) (ops := l.toArray) (Q := Q) l 0 (fun j => zz40)
  rw [List.range_eq_range', List.size_toArray, e]
  exact this
theorem wpc_region_y {id : Nat} {l : List Oper} (h : WPLI Fence.wide P l.toArray Q n R L l) : WPC P Q n R L (.region id l.toArray false) := fun a w hs hr => (wpIn_wide (n := 0)).1 (wpci_region h a w hs hr)
theorem wpci_seq {x y : Code} (h : WPCI F P (Exit.then (y.wpIn F 0 P Q) Q) n R L x) : WPCI F P Q n R L (.seq x y) := fun a w hs hr => wpIn_seq (h a w hs hr)
theorem exi_then {y : Code} (h : WPCI F P Q n R L y) : EX (Exit.then (y.wpIn F 0 P Q) Q) .normal n R L := fun a w hs hr => h a w hs hr
theorem wpci_block {id : Nat} {c : Code} (h : WPCI F P (Exit.inBlock id Q) n R L c) : WPCI F P Q n R L (.block id c) := fun a w hs hr => wpIn_block (h a w hs hr)
theorem wpci_skip (h : EX Q .normal n R L) : WPCI F P Q n R L .skip := fun a w hs hr => wpIn_skip (h a w hs hr)
theorem wpci_ret (h : EX Q .ret n R L) : WPCI F P Q n R L .ret := fun a w hs hr => wpIn_ret (h a w hs hr)
theorem wpci_exit {i : Nat} (h : EX Q (.exit i) n R L) : WPCI F P Q n R L (.exit i) := fun a w hs hr => wpIn_exit (h a w hs hr)
theorem wpci_cond {c : Operand} {x y : Code} {b : Bool} (hc : ev L c = some (.bool b)) (ht : b = true → WPCI F P Q n R L x) (hf : b = false → WPCI F P Q n R L y) : WPCI F P Q n R L (.cond c x y) :=
  fun a w hs hr => wpIn_cond_split (hs.eval hc) (fun h => ht h a w hs hr) (fun h => hf h a w hs hr)
def IterOk (P : Program) (gf : FuncId) (lb : Array Value) {α ι : Type} (encs : α → ι → Array Value) (At : List Nat → α → ι → World → Prop) (Inv : World → Prop) (xs : List α) (W : World) : Prop :=
  ∀ (l : Nat) (J : List Nat → List α → World → Prop),
    (∀ T T' pre w1 w2, J T pre w1 → Mem w1 T [] [] w2 → (∀ k, k ∈ T' → (k ∈ T ∨ w1.heap.size ≤ k) ∧ k < w2.heap.size) → J T' pre w2) →
    (∀ T pre w1, J T pre w1 → Inv w1) →
    (∀ T pre x i w1, J T pre w1 → (pre ++ [x]) <+: xs → At T x i w1 → YieldAt Fence.wide 0 P l (encs x i) w1 fun e w' => e = .returned (.bool true) ∧ J T (pre ++ [x]) w' ∧ w1.heap.size ≤ w'.heap.size ∧ ∀ k, k ∈ T → w'.heap[k]? = w1.heap[k]?) →
    J [] [] W → Calls P gf (#[.func (.yield l) #[] #[]] ++ lb) W fun e w' => (∃ v, e = .returned v) ∧ ∃ T, J T xs w'
def mark (D : Nat) : Deferred := { target := .collected D, args := #[] }
def RoundPost (R' : World → Prop) : Exit → Act → World → Prop
  | .normal, _, w => R' w
  | _, _, _ => False
theorem ex_round {R' : World → Prop} (h : ∀ w, R w → R' w) : EX (RoundPost R') .normal n R L := fun a w hs hr => h w hr
def addSlots : List Tmp → List Value → Slots → Slots
  | p :: ps, v :: vs, L => addSlots ps vs ((p, v) :: L)
  | _, _, L => L
theorem sl_adds : ∀ (ps : List Tmp) (vs : List Value) (L : Slots) (t : Array Value) (k : Nat), ps.length = vs.length → (∀ p ∈ ps, p < k) → Sl ⟨k, []⟩ { tmps := t, defers := [] } L →
    Sl ⟨k, []⟩ { tmps := ((ps.zip vs).foldl (fun t (p, v) => t.setIfInBounds p v) t), defers := [] } (addSlots ps vs L)
  | [], [], L, t, k, _, _, h => h
  | p :: ps, v :: vs, L, t, k, hl, hp, h => by
    simp only [List.zip_cons_cons, List.foldl_cons, addSlots]
    refine sl_adds ps vs _ _ k (by simpa using hl) (fun q hq => hp q (List.mem_cons_of_mem _ hq)) ?_
    have := h.put (d := p) (by have := hp p (List.mem_cons_self ..); simpa using this) v
    simpa [Act.put] using this
  | [], _ :: _, _, _, _, hl, _, _ => by simp at hl
  | _ :: _, [], _, _, _, hl, _, _ => by simp at hl
end
section
variable {w0 w : World} {Ln : List Nat} {M : List Ent} {S : List Fact}
theorem Mem.allocO (h : Mem w0 Ln M S w) (o : Obj) : Mem w0 Ln (.obj w.heap.size o :: M) S (w.alloc o) := by
  have hlt : ∀ e ∈ M, ∀ k, e.num = some k → k < w.heap.size := fun e he k hk => Ent.lt (h.own e he) hk
  refine h.step rfl rfl rfl zz40 (fun k hk _ _ => (World.grownBy_alloc w o none).block k hk zz40) ?_ ?_ ?_ ?_
  · intro e he
    rcases List.mem_cons.1 he with rfl | he
    · exact World.alloc_heap_new w o
    · exact Ent.kept (h.own e he) fun k hk => (World.grownBy_alloc w o none).block k (hlt e he k hk) zz40
  · intro e he k hk
    rcases List.mem_cons.1 he with rfl | he
    · simp only [Ent.num, Option.some.injEq] at hk; subst hk; exact .inl h.size
    · exact h.new e he k hk
  · refine List.pairwise_cons.2 ⟨fun f hf k hk hfk => ?_, h.apart⟩
    simp only [Ent.num, Option.some.injEq] at hk
    have := hlt f hf k hfk
    omega
  · intro k hk hm
    simp only [inM, List.any_cons, Bool.or_eq_false_iff]
    refine ⟨?_, hm⟩
    simp [Ent.num]; omega
theorem Mem.putO {M' : List Ent} (h : Mem w0 Ln M S w) {b : Nat} {o o' : Obj} (hr : Repl M (.obj b o) (.obj b o') M') : Mem w0 Ln M' S (w.putObj b o') := by
  have hb : w.heap[b]? = some o := h.own _ hr.mem
  refine h.turn hr rfl rfl rfl zz40 (fun k _ hne => World.putObj_heap_other fun e => hne (by simp [Ent.num, e])) ?_ ?_
  · exact World.putObj_heap_same (Array.getElem?_eq_some_iff.1 hb).1
  · intro k hk; exact .inl hk
theorem inM_append (X M : List Ent) (k : Nat) : inM (X ++ M) k = (inM X k || inM M k) := by simp [inM]
theorem Mem.framed {X M' : List Ent} {w1 : World} {S' : List Fact} (h1 : Mem w0 Ln (X ++ M) S w1) (h2 : Mem w1 (nums M) M' S' w) : Mem w0 Ln (X ++ M') [] w := by
  have hX : Mem w0 Ln M S w1 := by
    refine ⟨h1.os, h1.tape, h1.output, h1.size, h1.old, fun e he => h1.own e (List.mem_append_right _ he), fun e he => h1.new e (List.mem_append_right _ he), (List.pairwise_append.1 h1.apart).2.1, fun s hs => s.mono _ _ (fun a v hv => ?_) (h1.facts s hs)⟩
    simp only [rdF] at hv ⊢
    split at hv
    · rename_i hc
      have : inM M a.block = false := by
        have := hc.2; rw [inM_append, Bool.or_eq_false_iff] at this; exact this.2
      rw [if_pos ⟨hc.1, this⟩]; exact hv
    · cases hv
  have h3 := hX.trans h2
  obtain ⟨pX, pM, pXM⟩ := List.pairwise_append.1 h1.apart
  refine ⟨h3.os, h3.tape, h3.output, h3.size, h3.old, fun e he => ?_, fun e he => ?_, ?_, fun _ hs => (by cases hs)⟩
  · rcases List.mem_append.1 he with he | he
    · refine Ent.kept (h1.own e (List.mem_append_left _ he)) fun k hk => h2.old k (Ent.lt (h1.own e (List.mem_append_left _ he)) hk) fun hm => ?_
      obtain ⟨f, hf, hn⟩ := mem_nums.1 hm
      exact pXM e he f hf k hk hn
    · exact h3.own e he
  · rcases List.mem_append.1 he with he | he
    · exact h1.new e (List.mem_append_left _ he)
    · exact h3.new e he
  · refine List.pairwise_append.2 ⟨pX, h3.apart, fun e he f hf k hk hfk => ?_⟩
    rcases h2.new f hf k hfk with h | h
    · have := Ent.lt (h1.own e (List.mem_append_left _ he)) hk; omega
    · obtain ⟨g, hg, hn⟩ := mem_nums.1 h
      exact pXM e he g hg k hk hn
end
theorem ex_assign {m : Nat} {R : World → Prop} {L L1 : Slots} {K : Act → World → Prop} {Q : Exit → Act → World → Prop} (hK : ∀ a w, Sl ⟨m, []⟩ a L1 → R w → K a w) (hl : subs L L1) : EX (Exit.then K Q) .normal ⟨m, []⟩ R L :=
  fun a w hs hr => hK a w (hs.weaken (subs_get hl)) hr
theorem wpc_range {P : Program} {Q : Exit → Act → World → Prop} {g : Operand} {ps : Array Tmp} {assign body : Code} {k : Nat} {L : Slots} {w0 : World} {Ln : List Nat} {S : List Fact} {α ι : Type} {gf : FuncId} {lb : Array Value}
    {encs : α → ι → Array Value} {At : List Nat → α → ι → World → Prop} {Inv : World → Prop} {xs : List α} (M : List α → List Ent) (L1 : α → ι → Slots)
    (hg : ev L g = some (.func (.func gf) #[] lb)) (hbd : HasBody P gf)
    (hit : ∀ w, Mem w0 Ln (M []) S w → IterOk P gf lb encs At Inv xs w) (hInv : ∀ pre w, Mem w0 Ln (M pre) [] w → Inv w)
    (hAt : ∀ T x i w w', At T x i w → (∀ j, j ∈ T → w'.heap[j]? = w.heap[j]?) → At T x i w')
    (hps : ∀ x i, (encs x i).size = ps.size) (hpk : ∀ p ∈ ps.toList, p < k)
    (hassign : ∀ (l : Nat) (x : α) (i : ι) (R : World → Prop) (K : Act → World → Prop), (∀ a w, Sl ⟨k, []⟩ a (L1 x i) → R w → K a w) →
      WPCI (Fence.wide.inRound l) P (Exit.then K (fun _ _ _ => False)) ⟨k, []⟩ R (addSlots ps.toList (encs x i).toList L) assign)
    (hbody : ∀ (l : Nat) (pre : List α) (x : α) (i : ι) (w1 : World) (T : List Nat), (pre ++ [x]) <+: xs → Mem w0 Ln (M pre) [] w1 → At T x i w1 → (∀ j, j ∈ T → w0.heap.size ≤ j ∧ inM (M pre) j = false) →
      WPCI (Fence.wide.inRound l) P (RoundPost (Mem w1 (nums (M pre)) (M (pre ++ [x])) [])) ⟨k, []⟩ (Mem w1 (nums (M pre)) (M pre) []) (L1 x i) body)
    (hdone : ∀ D, EX Q .normal ⟨k, [mark D]⟩ (Mem w0 Ln (.obj D (.deferred (some [])) :: M xs) []) L) :
    WPC P Q ⟨k, []⟩ (Mem w0 Ln (M []) S) L (.rangeFunc g ps assign body) := by
  intro a w hs hr
  refine (wpIn_wide (n := 0)).1 (wpIn_rangeFunc ?_)
  intro fn hfn
  obtain ⟨rec, hrec⟩ : ∃ rec : LoopState → Loop, rec = fun st => { state := st, pending := none, fn, tmps := a.tmps, params := ps, assign, body, defers := w.heap.size } := ⟨_, rfl⟩
  obtain ⟨W1, hW1⟩ : ∃ W1, (w.alloc (.deferred (some []))).alloc (.loop (rec .ready)) = W1 := ⟨_, rfl⟩
  have hM1 : Mem w0 Ln (.obj (w.heap.size + 1) (.loop (rec .ready)) :: .obj w.heap.size (.deferred (some [])) :: M []) S W1 := by
    have := (hr.allocO (.deferred (some []))).allocO (.loop (rec .ready))
    rw [World.size_alloc] at this
    rw [← hW1]; exact this
  have hsz1 : W1.heap.size = w.heap.size + 2 := by rw [← hW1]; simp
  have hw0 := hr.size
  have hr1 : Mem w0 Ln (M []) S W1 := hM1.sub (.drop (.drop (Sub.refl _))) (Sub.refl _)
  refine ⟨w.heap.size + 1, [mark w.heap.size], W1, { target := .fn (.func gf) lb, args := #[.func (.yield (w.heap.size + 1)) #[] #[]] }, W1, gf, #[.func (.yield (w.heap.size + 1)) #[] #[]] ++ lb, W1, ?_, ?_, fun _ _ => trivial, ?_, fun e => by simp [Fence.wide] at e, ?_⟩
  · rw [← hW1, hrec]; exact run_enterLoop_outer _ _ _ _ _
  · simp only [resolve, rangeCall, hs.eval hg]
    simp [go_sem]
  · simp [invoke, run_callFunc hbd]
  · refine callsIn_wide.2 ?_
    let J : List Nat → List α → World → Prop := fun T pre w' => Mem w0 Ln (.obj (w.heap.size + 1) (.loop (rec .ready)) :: .obj w.heap.size (.deferred (some [])) :: M pre) [] w' ∧ W1.heap.size ≤ w'.heap.size ∧
      ∀ j, j ∈ T → W1.heap.size ≤ j ∧ inM (M pre) j = false ∧ j < w'.heap.size
    refine (hit W1 hr1 (w.heap.size + 1) J ?_ ?_ ?_ ⟨hM1.sub (Sub.refl _) .nil, Nat.le_refl _, fun _ h => (by cases h)⟩).mono ?_
    · rintro T T' pre w1 w2 ⟨j1, j2, j3⟩ hc hT
      have hnot : ∀ j, j ∈ T → w0.heap.size ≤ j ∧ inM (.obj (w.heap.size + 1) (.loop (rec .ready)) :: .obj w.heap.size (.deferred (some [])) :: M pre) j = false := fun j hj => by
        obtain ⟨a1, a2, _⟩ := j3 j hj
        refine ⟨zz12, ?_⟩
        simp only [inM, List.any_cons, Bool.or_eq_false_iff, Ent.num]
        refine ⟨zz50, zz50, a2⟩
      refine ⟨j1.chg hc hnot, Nat.le_trans j2 hc.size, fun j hj => ?_⟩
      obtain ⟨h1, h2⟩ := hT j hj
      rcases h1 with h1 | h1
      · exact ⟨(j3 j h1).1, (j3 j h1).2.1, h2⟩
      · refine ⟨zz12, ?_, h2⟩
        cases hm : inM (M pre) j
        · rfl
        · obtain ⟨e, he, hn⟩ := inM_iff.1 hm
          have := Ent.lt (j1.own e (List.mem_cons_of_mem _ (List.mem_cons_of_mem _ he))) hn
          omega
    · rintro T pre w1 ⟨j1, _⟩
      exact hInv pre w1 (j1.sub (.drop (.drop (Sub.refl _))) .nil)
    · rintro T pre x i w1 ⟨j1, j2, j3⟩ hpre hat
      have hl : w1.heap[w.heap.size + 1]? = some (.loop (rec .ready)) := j1.own _ (List.mem_cons_self ..)
      have hy := run_yield (P := P) (args := encs x i) hl (by rw [hrec]; exact hps x i)
      rw [hrec] at hy
      refine ⟨fn, _, assign, body, hy, roundIn_of_wpIn hfn ?_⟩
      obtain ⟨w2, hw2⟩ : ∃ w2, w1.putObj (w.heap.size + 1) (.loop { rec .ready with state := .busy }) = w2 := ⟨_, rfl⟩
      have j4 : Mem w0 Ln ([.obj (w.heap.size + 1) (.loop { rec .ready with state := .busy }), .obj w.heap.size (.deferred (some []))] ++ M pre) [] w2 := by
        rw [← hw2]; exact j1.putO .here
      have hbr : (Instr.beginRound (w.heap.size + 1)).run P w1 = .ok () w2 := by rw [← hw2]; exact run_beginRound hl (by rw [hrec])
      have hm2 : Mem w0 Ln (M pre) [] w2 := j4.sub (.drop (.drop (Sub.refl _))) .nil
      have hs2 : w2.heap.size = w1.heap.size := by rw [← hw2]; simp
      have hT2 : ∀ j, j ∈ T → w2.heap[j]? = w1.heap[j]? := fun j hj => by
        rw [← hw2]; exact World.putObj_heap_other (by have := (j3 j hj).1; omega)
      have hbd2 := hbody (w.heap.size + 1) pre x i w2 T hpre hm2 (hAt T x i w1 w2 hat hT2) (fun j hj => ⟨by have := (j3 j hj).1; omega, (j3 j hj).2.1⟩)
      have hsl : Sl ⟨k, []⟩ { tmps := ((ps.zip (encs x i)).foldl (fun t (p, v) => t.setIfInBounds p v) a.tmps), defers := [] } (addSlots ps.toList (encs x i).toList L) := by
        have hs0 : Sl ⟨k, []⟩ { tmps := a.tmps, defers := [] } L := ⟨hs.size, rfl, hs.tmp⟩
        have := sl_adds ps.toList (encs x i).toList L a.tmps k (by simpa using (hps x i).symm) hpk hs0
        rw [← Array.foldl_toList, Array.toList_zip]
        exact this
      refine hassign (w.heap.size + 1) x i (fun w' => w' = w1) _ (fun a1 w' hs1 hw' => ?_) _ w1 hsl rfl
      subst hw'
      refine ⟨w2, hbr, wpIn_mono (hbd2 a1 w2 hs1 (by have := hm2.base; exact this)) ?_⟩
      rintro e a3 w3 hp
      cases e with
      | normal =>
        have hp' : Mem w2 (nums (M pre)) (M (pre ++ [x])) [] w3 := hp
        have j5 := j4.framed hp'
        have hl3 : w3.heap[w.heap.size + 1]? = some (.loop { rec .ready with state := .busy }) := j5.own _ (List.mem_cons_self ..)
        have hend := run_endRound (P := P) none hl3
        have hback : { { rec .ready with state := .busy } with state := if (none : Option Code).isNone then .ready else .done, pending := none } = rec .ready := by rw [hrec]; rfl
        rw [hback] at hend
        have hnT : ∀ j, j ∈ T → j ∉ nums (M pre) := fun j hj hm => by
          obtain ⟨e, he, hn⟩ := mem_nums.1 hm
          exact inM_not (j3 j hj).2.1 e he hn
        have hTs : ∀ j, j ∈ T → (w3.putObj (w.heap.size + 1) (.loop (rec .ready))).heap[j]? = w'.heap[j]? := fun j hj => by
          rw [World.putObj_heap_other (by have := (j3 j hj).1; omega), hp'.old j (by rw [hs2]; exact (j3 j hj).2.2) (hnT j hj)]
          exact hT2 j hj
        have hsz3 := hp'.size
        refine ⟨_, _, hend, rfl, ⟨?_, ?_, fun j hj => ⟨(j3 j hj).1, ?_, ?_⟩⟩, by rw [World.putObj_size]; omega, hTs⟩
        · exact j5.putO .here
        · rw [World.putObj_size]; omega
        · cases hm : inM (M (pre ++ [x])) j
          · rfl
          · obtain ⟨e, he, hn⟩ := inM_iff.1 hm
            rcases hp'.new e he j hn with h | h
            · have := (j3 j hj).2.2; omega
            · exact absurd h (hnT j hj)
        · rw [World.putObj_size]; have := (j3 j hj).2.2; omega
      | ret => exact (hp : False).elim
      | exit id => exact (hp : False).elim
      | goto t => exact (hp : False).elim
      | panic ch => exact (hp : False).elim
      | outgrown => exact (hp : False).elim
    · rintro e w2 ⟨⟨v, rfl⟩, T, j1, j2, j3⟩
      have hl : w2.heap[w.heap.size + 1]? = some (.loop (rec .ready)) := j1.own _ (List.mem_cons_self ..)
      have hend := run_endLoop (P := P) hl (by rw [hrec]; simp)
      have hp : (rec .ready).pending = none := by rw [hrec]
      rw [hp] at hend
      refine ⟨none, _, hend, ?_⟩
      have hd : a.defers = [] := hs.defers
      refine hdone w.heap.size _ _ ⟨hs.size, by simp [hd], hs.tmp⟩ ?_
      exact (j1.putO .here).sub (.drop (Sub.refl _)) .nil
theorem enterM {P : Program} {R : World → Prop} {f : FuncId} {fn : Func} {c : Code} {args : List Value} {w0 : World} {post : Ending → World → Prop}
    (hf : P.funcs[f]? = some fn) (hb : fn.body = some c) {m : Nat} (hn : fn.ntmps = m) (hna : args.length ≤ m) (h0 : R w0)
    (h : WPC P (bodyPostM Fence.wide 0 P fn post) ⟨m, []⟩ R (argSlots 0 args) c) : Calls P f args.toArray w0 post := by
  refine callsIn_wide.1 (callsIn_of_wp_marks (n := 0) hf hb trivial ((wpIn_wide (n := 0)).2 (h _ w0 ⟨?_, rfl, fun t v hv => ?_⟩ h0)))
  · simp [hn]; omega
  · have := (get_argSlots t v args 0 hv).2
    simp only [Nat.sub_zero] at this
    have hlt : t < args.length := by
      rcases Nat.lt_or_ge t args.length with h | h
      · exact h
      · rw [List.getElem?_eq_none h] at this; cases this
    rw [Array.getElem?_append_left (by simpa using hlt)]
    simpa using this
theorem ex_mark {P : Program} {fn : Func} {post : Ending → World → Prop} {m D : Nat} {e : Exit} {L : Slots} {w0 : World} {Ln : List Nat} {M M' : List Ent} {S : List Fact} (he : e = .ret ∨ e = .normal) (hr : Repl M (.obj D (.deferred (some []))) (.obj D (.deferred none)) M')
    (h : EX (bodyPost P fn post) e ⟨m, []⟩ (Mem w0 Ln M' S) L) : EX (bodyPostM Fence.wide 0 P fn post) e ⟨m, [mark D]⟩ (Mem w0 Ln M S) L := by
  intro a w hs hw
  have hD : w.heap[D]? = some (.deferred (some [])) := hw.own _ hr.mem
  have h1 := h { tmps := a.tmps, defers := [] } (w.putObj D (.deferred none)) ⟨hs.size, rfl, hs.tmp⟩ (hw.putO hr)
  have hd : a.defers = [mark D] := hs.defers
  rcases he with rfl | rfl
  · obtain ⟨_, v, hv, hp⟩ := h1
    show LeavesInM _ _ _ _ _ _ a.defers _ _
    rw [hd]
    exact ⟨zz40, .inl ⟨D, _, rfl, run_takeDeferred hD, v, hv, hp⟩⟩
  · obtain ⟨_, v, hv, hp⟩ := h1
    show LeavesInM _ _ _ _ _ _ a.defers _ _
    rw [hd]
    exact ⟨zz40, .inl ⟨D, _, rfl, run_takeDeferred hD, v, hv, hp⟩⟩
end Go.PL
