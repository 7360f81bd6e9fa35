/- What the statement reaches, in order. -/
import Derived.Test.YtgnablliekgbgaaDoorMNPLN
import Derived.Test.YtgnablliekgbgaaDoorMNPLL
import Derived.Test.YtgnablliekgbgaaDoorMNTI
import Derived.Test.YtgnablliekgbgaaDoorMNPLI
import Derived.Test.YtgnablliekgbgaaDoorMNPLZ
import Derived.KernelRfl
import Derived.Lib.BufferRead
import Derived.Lib.ConvBytes
import Derived.Laws.IdiomStrings
import Derived.Test.YtgnablliekgbgaaDoorMNPLH
import Derived.Recover
import Derived.WalkKit
import Derived.ProofKit
import Derived.OpenShut
import Derived.ChangeOld
import Derived.Below
import Derived.Carry
import Derived.LaidMore
import Derived.Deep.DeepHandedRow
import Derived.Deep.DeepWitnessRowRef
import Derived.Lib.LaidTab
import Derived.Stop.Joined
import Derived.Test.YtgnablliekgbgaaDoorMN1
set_option linter.unusedSimpArgs false
set_option linter.unusedVariables false
set_option maxRecDepth 100000
namespace Go.Proofs.YtgnablliekgbgaaDoor
open Go Go.PL Go.RowKit
def force {α : Type} (x : Nat) (k : Nat → α) : α := match x with
  | 0 => k 0
  | n + 1 => k (Nat.succ n)
def big (a b c : Nat) (y : Nat) : Nat := Nat.mod (Nat.xor (Nat.xor (Nat.shiftRight y a) (Nat.shiftRight y b)) (Nat.shiftRight y c)) 4294967296
def sml (a b c x : Nat) (y : Nat) : Nat := Nat.xor (Nat.mod (Nat.xor (Nat.shiftRight y a) (Nat.shiftRight y b)) 4294967296) (Nat.shiftRight x c)
def dbl (x : Nat) : Nat := Nat.mul x 4294967297
def tN (e f g h k w : Nat) : Nat := Nat.add (Nat.add (Nat.add (Nat.add h (big 6 11 25 (dbl e))) (Nat.xor (Nat.land e f) (Nat.land (Nat.sub 4294967295 e) g))) k) w
def uN (a b c : Nat) : Nat := Nat.add (big 2 13 22 (dbl a)) (Nat.xor (Nat.xor (Nat.land a b) (Nat.land a c)) (Nat.land b c))
def rnd : List Nat → List Nat → Nat → Nat → Nat → Nat → Nat → Nat → Nat → Nat → List Nat
  | k :: ks, w :: ws, a, b, c, d, e, f, g, h =>
    force (tN e f g h k w) fun t => force (Nat.mod (Nat.add t (uN a b c)) 4294967296) fun a' => force (Nat.mod (Nat.add d t) 4294967296) fun e' => rnd ks ws a' a b c e' e f g
  | _, _, a, b, c, d, e, f, g, h => [a, b, c, d, e, f, g, h]
def nw (w0 w1 w9 w14 : Nat) : Nat := Nat.mod (Nat.add (Nat.add (Nat.add (sml 17 19 10 w14 (dbl w14)) w9) (sml 7 18 3 w1 (dbl w1))) w0) 4294967296
def sch : Nat → Nat → Nat → Nat → Nat → Nat → Nat → Nat → Nat → Nat → Nat → Nat → Nat → Nat → Nat → Nat → Nat → List Nat
  | 0, _, _, _, _, _, _, _, _, _, _, _, _, _, _, _, _ => []
  | n + 1, w0, w1, w2, w3, w4, w5, w6, w7, w8, w9, w10, w11, w12, w13, w14, w15 =>
    force (nw w0 w1 w9 w14) fun w16 => w0 :: sch n w1 w2 w3 w4 w5 w6 w7 w8 w9 w10 w11 w12 w13 w14 w15 w16
def ksN : List Nat := [1116352408, 1899447441, 3049323471, 3921009573, 961987163, 1508970993, 2453635748, 2870763221, 3624381080, 310598401, 607225278, 1426881987, 1925078388, 2162078206, 2614888103, 3248222580, 3835390401, 4022224774, 264347078, 604807628, 770255983, 1249150122, 1555081692, 1996064986, 2554220882, 2821834349, 2952996808, 3210313671, 3336571891, 3584528711, 113926993, 338241895, 666307205, 773529912, 1294757372, 1396182291, 1695183700, 1986661051, 2177026350, 2456956037, 2730485921, 2820302411, 3259730800, 3345764771, 3516065817, 3600352804, 4094571909, 275423344, 430227734, 506948616, 659060556, 883997877, 958139571, 1322822218, 1537002063, 1747873779, 1955562222, 2024104815, 2227730452, 2361852424, 2428436474, 2756734187, 3204031479, 3329325298]
theorem force_eq {α : Type} (x : Nat) (k : Nat → α) : force x k = k x := by cases x <;> rfl
theorem xor_mod (a b : Nat) : (a ^^^ b) % 4294967296 = (a % 4294967296) ^^^ (b % 4294967296) := Nat.xor_mod_two_pow (n := 32)
theorem sr_nat (x : UInt32) (k : Nat) (h : k ≤ 32) : (sr32 x k).toNat = x.toNat / 2 ^ k := by
  have := x.toNat_lt
  unfold sr32
  rw [UInt32.toNat_ofNat', Nat.min_eq_left h]
  exact Nat.mod_eq_of_lt (Nat.lt_of_le_of_lt (Nat.div_le_self ..) zz12)
theorem sl_nat (x : UInt32) (k : Nat) (h : k ≤ 32) : (sl32 x k).toNat = (x.toNat * 2 ^ k) % 4294967296 := by
  unfold sl32
  rw [UInt32.toNat_ofNat', Nat.min_eq_left h]
theorem rot2 (x : UInt32) : (rotlF x (-2)).toNat = Nat.shiftRight (dbl x.toNat) 2 % 4294967296 := by
  have hx := x.toNat_lt
  have h0 := rotR_eq x 2 zz12 zz12
  have h1 : (rotlF x (-2)).toNat = (rotR x 2).toNat := congrArg UInt32.toNat h0.symm
  rw [h1]
  unfold rotR
  rw [UInt32.toNat_or, sr_nat _ _ zz12, sl_nat _ _ zz12]
  have e : Nat.shiftRight (dbl x.toNat) 2 = x.toNat * 4294967297 / 4 := Nat.shiftRight_eq_div_pow _ 2
  rw [e]
  generalize x.toNat = n at hx
  have e2 : n * 2 ^ (32 - 2) % 4294967296 = (n % 4) * 2 ^ 30 := by
    show n * 1073741824 % 4294967296 = (n % 4) * 1073741824
    omega
  have e3 : n / 2 ^ 2 ||| (n % 4) * 2 ^ 30 = (n % 4) * 2 ^ 30 + n / 2 ^ 2 := by
    rw [Nat.or_comm]; exact or_add _ _ 30 (by show n / 4 < 1073741824; omega)
  rw [e2, e3]
  show (n % 4) * 1073741824 + n / 4 = n * 4294967297 / 4 % 4294967296
  have hg : n * 4294967297 / 4 = n / 4 + n * 1073741824 := by
    rw [show n * 4294967297 = n + n * 1073741824 * 4 from zz12, Nat.add_mul_div_right _ _ zz12]
  rw [hg]
  have hd := Nat.div_add_mod n 4
  have hr : n % 4 < 4 := Nat.mod_lt _ zz12
  generalize n / 4 = q at *
  generalize n % 4 = r at *
  subst hd
  omega
theorem rot6 (x : UInt32) : (rotlF x (-6)).toNat = Nat.shiftRight (dbl x.toNat) 6 % 4294967296 := by
  have hx := x.toNat_lt
  have h0 := rotR_eq x 6 zz12 zz12
  have h1 : (rotlF x (-6)).toNat = (rotR x 6).toNat := congrArg UInt32.toNat h0.symm
  rw [h1]
  unfold rotR
  rw [UInt32.toNat_or, sr_nat _ _ zz12, sl_nat _ _ zz12]
  have e : Nat.shiftRight (dbl x.toNat) 6 = x.toNat * 4294967297 / 64 := Nat.shiftRight_eq_div_pow _ 6
  rw [e]
  generalize x.toNat = n at hx
  have e2 : n * 2 ^ (32 - 6) % 4294967296 = (n % 64) * 2 ^ 26 := by
    show n * 67108864 % 4294967296 = (n % 64) * 67108864
    omega
  have e3 : n / 2 ^ 6 ||| (n % 64) * 2 ^ 26 = (n % 64) * 2 ^ 26 + n / 2 ^ 6 := by
    rw [Nat.or_comm]; exact or_add _ _ 26 (by show n / 64 < 67108864; omega)
  rw [e2, e3]
  show (n % 64) * 67108864 + n / 64 = n * 4294967297 / 64 % 4294967296
  have hg : n * 4294967297 / 64 = n / 64 + n * 67108864 := by
    rw [show n * 4294967297 = n + n * 67108864 * 64 from zz12, Nat.add_mul_div_right _ _ zz12]
  rw [hg]
  have hd := Nat.div_add_mod n 64
  have hr : n % 64 < 64 := Nat.mod_lt _ zz12
  generalize n / 64 = q at *
  generalize n % 64 = r at *
  subst hd
  omega
theorem rot7 (x : UInt32) : (rotlF x (-7)).toNat = Nat.shiftRight (dbl x.toNat) 7 % 4294967296 := by
  have hx := x.toNat_lt
  have h0 := rotR_eq x 7 zz12 zz12
  have h1 : (rotlF x (-7)).toNat = (rotR x 7).toNat := congrArg UInt32.toNat h0.symm
  rw [h1]
  unfold rotR
  rw [UInt32.toNat_or, sr_nat _ _ zz12, sl_nat _ _ zz12]
  have e : Nat.shiftRight (dbl x.toNat) 7 = x.toNat * 4294967297 / 128 := Nat.shiftRight_eq_div_pow _ 7
  rw [e]
  generalize x.toNat = n at hx
  have e2 : n * 2 ^ (32 - 7) % 4294967296 = (n % 128) * 2 ^ 25 := by
    show n * 33554432 % 4294967296 = (n % 128) * 33554432
    omega
  have e3 : n / 2 ^ 7 ||| (n % 128) * 2 ^ 25 = (n % 128) * 2 ^ 25 + n / 2 ^ 7 := by
    rw [Nat.or_comm]; exact or_add _ _ 25 (by show n / 128 < 33554432; omega)
  rw [e2, e3]
  show (n % 128) * 33554432 + n / 128 = n * 4294967297 / 128 % 4294967296
  have hg : n * 4294967297 / 128 = n / 128 + n * 33554432 := by
    rw [show n * 4294967297 = n + n * 33554432 * 128 from zz12, Nat.add_mul_div_right _ _ zz12]
  rw [hg]
  have hd := Nat.div_add_mod n 128
  have hr : n % 128 < 128 := Nat.mod_lt _ zz12
  generalize n / 128 = q at *
  generalize n % 128 = r at *
  subst hd
  omega
theorem rot11 (x : UInt32) : (rotlF x (-11)).toNat = Nat.shiftRight (dbl x.toNat) 11 % 4294967296 := by
  have hx := x.toNat_lt
  have h0 := rotR_eq x 11 zz12 zz12
  have h1 : (rotlF x (-11)).toNat = (rotR x 11).toNat := congrArg UInt32.toNat h0.symm
  rw [h1]
  unfold rotR
  rw [UInt32.toNat_or, sr_nat _ _ zz12, sl_nat _ _ zz12]
  have e : Nat.shiftRight (dbl x.toNat) 11 = x.toNat * 4294967297 / 2048 := Nat.shiftRight_eq_div_pow _ 11
  rw [e]
  generalize x.toNat = n at hx
  have e2 : n * 2 ^ (32 - 11) % 4294967296 = (n % 2048) * 2 ^ 21 := by
    show n * 2097152 % 4294967296 = (n % 2048) * 2097152
    omega
  have e3 : n / 2 ^ 11 ||| (n % 2048) * 2 ^ 21 = (n % 2048) * 2 ^ 21 + n / 2 ^ 11 := by
    rw [Nat.or_comm]; exact or_add _ _ 21 (by show n / 2048 < 2097152; omega)
  rw [e2, e3]
  show (n % 2048) * 2097152 + n / 2048 = n * 4294967297 / 2048 % 4294967296
  have hg : n * 4294967297 / 2048 = n / 2048 + n * 2097152 := by
    rw [show n * 4294967297 = n + n * 2097152 * 2048 from zz12, Nat.add_mul_div_right _ _ zz12]
  rw [hg]
  have hd := Nat.div_add_mod n 2048
  have hr : n % 2048 < 2048 := Nat.mod_lt _ zz12
  generalize n / 2048 = q at *
  generalize n % 2048 = r at *
  subst hd
  omega
theorem rot13 (x : UInt32) : (rotlF x (-13)).toNat = Nat.shiftRight (dbl x.toNat) 13 % 4294967296 := by
  have hx := x.toNat_lt
  have h0 := rotR_eq x 13 zz12 zz12
  have h1 : (rotlF x (-13)).toNat = (rotR x 13).toNat := congrArg UInt32.toNat h0.symm
  rw [h1]
  unfold rotR
  rw [UInt32.toNat_or, sr_nat _ _ zz12, sl_nat _ _ zz12]
  have e : Nat.shiftRight (dbl x.toNat) 13 = x.toNat * 4294967297 / 8192 := Nat.shiftRight_eq_div_pow _ 13
  rw [e]
  generalize x.toNat = n at hx
  have e2 : n * 2 ^ (32 - 13) % 4294967296 = (n % 8192) * 2 ^ 19 := by
    show n * 524288 % 4294967296 = (n % 8192) * 524288
    omega
  have e3 : n / 2 ^ 13 ||| (n % 8192) * 2 ^ 19 = (n % 8192) * 2 ^ 19 + n / 2 ^ 13 := by
    rw [Nat.or_comm]; exact or_add _ _ 19 (by show n / 8192 < 524288; omega)
  rw [e2, e3]
  show (n % 8192) * 524288 + n / 8192 = n * 4294967297 / 8192 % 4294967296
  have hg : n * 4294967297 / 8192 = n / 8192 + n * 524288 := by
    rw [show n * 4294967297 = n + n * 524288 * 8192 from zz12, Nat.add_mul_div_right _ _ zz12]
  rw [hg]
  have hd := Nat.div_add_mod n 8192
  have hr : n % 8192 < 8192 := Nat.mod_lt _ zz12
  generalize n / 8192 = q at *
  generalize n % 8192 = r at *
  subst hd
  omega
theorem rot17 (x : UInt32) : (rotlF x (-17)).toNat = Nat.shiftRight (dbl x.toNat) 17 % 4294967296 := by
  have hx := x.toNat_lt
  have h0 := rotR_eq x 17 zz12 zz12
  have h1 : (rotlF x (-17)).toNat = (rotR x 17).toNat := congrArg UInt32.toNat h0.symm
  rw [h1]
  unfold rotR
  rw [UInt32.toNat_or, sr_nat _ _ zz12, sl_nat _ _ zz12]
  have e : Nat.shiftRight (dbl x.toNat) 17 = x.toNat * 4294967297 / 131072 := Nat.shiftRight_eq_div_pow _ 17
  rw [e]
  generalize x.toNat = n at hx
  have e2 : n * 2 ^ (32 - 17) % 4294967296 = (n % 131072) * 2 ^ 15 := by
    show n * 32768 % 4294967296 = (n % 131072) * 32768
    omega
  have e3 : n / 2 ^ 17 ||| (n % 131072) * 2 ^ 15 = (n % 131072) * 2 ^ 15 + n / 2 ^ 17 := by
    rw [Nat.or_comm]; exact or_add _ _ 15 (by show n / 131072 < 32768; omega)
  rw [e2, e3]
  show (n % 131072) * 32768 + n / 131072 = n * 4294967297 / 131072 % 4294967296
  have hg : n * 4294967297 / 131072 = n / 131072 + n * 32768 := by
    rw [show n * 4294967297 = n + n * 32768 * 131072 from zz12, Nat.add_mul_div_right _ _ zz12]
  rw [hg]
  have hd := Nat.div_add_mod n 131072
  have hr : n % 131072 < 131072 := Nat.mod_lt _ zz12
  generalize n / 131072 = q at *
  generalize n % 131072 = r at *
  subst hd
  omega
theorem rot18 (x : UInt32) : (rotlF x (-18)).toNat = Nat.shiftRight (dbl x.toNat) 18 % 4294967296 := by
  have hx := x.toNat_lt
  have h0 := rotR_eq x 18 zz12 zz12
  have h1 : (rotlF x (-18)).toNat = (rotR x 18).toNat := congrArg UInt32.toNat h0.symm
  rw [h1]
  unfold rotR
  rw [UInt32.toNat_or, sr_nat _ _ zz12, sl_nat _ _ zz12]
  have e : Nat.shiftRight (dbl x.toNat) 18 = x.toNat * 4294967297 / 262144 := Nat.shiftRight_eq_div_pow _ 18
  rw [e]
  generalize x.toNat = n at hx
  have e2 : n * 2 ^ (32 - 18) % 4294967296 = (n % 262144) * 2 ^ 14 := by
    show n * 16384 % 4294967296 = (n % 262144) * 16384
    omega
  have e3 : n / 2 ^ 18 ||| (n % 262144) * 2 ^ 14 = (n % 262144) * 2 ^ 14 + n / 2 ^ 18 := by
    rw [Nat.or_comm]; exact or_add _ _ 14 (by show n / 262144 < 16384; omega)
  rw [e2, e3]
  show (n % 262144) * 16384 + n / 262144 = n * 4294967297 / 262144 % 4294967296
  have hg : n * 4294967297 / 262144 = n / 262144 + n * 16384 := by
    rw [show n * 4294967297 = n + n * 16384 * 262144 from zz12, Nat.add_mul_div_right _ _ zz12]
  rw [hg]
  have hd := Nat.div_add_mod n 262144
  have hr : n % 262144 < 262144 := Nat.mod_lt _ zz12
  generalize n / 262144 = q at *
  generalize n % 262144 = r at *
  subst hd
  omega
theorem rot19 (x : UInt32) : (rotlF x (-19)).toNat = Nat.shiftRight (dbl x.toNat) 19 % 4294967296 := by
  have hx := x.toNat_lt
  have h0 := rotR_eq x 19 zz12 zz12
  have h1 : (rotlF x (-19)).toNat = (rotR x 19).toNat := congrArg UInt32.toNat h0.symm
  rw [h1]
  unfold rotR
  rw [UInt32.toNat_or, sr_nat _ _ zz12, sl_nat _ _ zz12]
  have e : Nat.shiftRight (dbl x.toNat) 19 = x.toNat * 4294967297 / 524288 := Nat.shiftRight_eq_div_pow _ 19
  rw [e]
  generalize x.toNat = n at hx
  have e2 : n * 2 ^ (32 - 19) % 4294967296 = (n % 524288) * 2 ^ 13 := by
    show n * 8192 % 4294967296 = (n % 524288) * 8192
    omega
  have e3 : n / 2 ^ 19 ||| (n % 524288) * 2 ^ 13 = (n % 524288) * 2 ^ 13 + n / 2 ^ 19 := by
    rw [Nat.or_comm]; exact or_add _ _ 13 (by show n / 524288 < 8192; omega)
  rw [e2, e3]
  show (n % 524288) * 8192 + n / 524288 = n * 4294967297 / 524288 % 4294967296
  have hg : n * 4294967297 / 524288 = n / 524288 + n * 8192 := by
    rw [show n * 4294967297 = n + n * 8192 * 524288 from zz12, Nat.add_mul_div_right _ _ zz12]
  rw [hg]
  have hd := Nat.div_add_mod n 524288
  have hr : n % 524288 < 524288 := Nat.mod_lt _ zz12
  generalize n / 524288 = q at *
  generalize n % 524288 = r at *
  subst hd
  omega
theorem rot22 (x : UInt32) : (rotlF x (-22)).toNat = Nat.shiftRight (dbl x.toNat) 22 % 4294967296 := by
  have hx := x.toNat_lt
  have h0 := rotR_eq x 22 zz12 zz12
  have h1 : (rotlF x (-22)).toNat = (rotR x 22).toNat := congrArg UInt32.toNat h0.symm
  rw [h1]
  unfold rotR
  rw [UInt32.toNat_or, sr_nat _ _ zz12, sl_nat _ _ zz12]
  have e : Nat.shiftRight (dbl x.toNat) 22 = x.toNat * 4294967297 / 4194304 := Nat.shiftRight_eq_div_pow _ 22
  rw [e]
  generalize x.toNat = n at hx
  have e2 : n * 2 ^ (32 - 22) % 4294967296 = (n % 4194304) * 2 ^ 10 := by
    show n * 1024 % 4294967296 = (n % 4194304) * 1024
    omega
  have e3 : n / 2 ^ 22 ||| (n % 4194304) * 2 ^ 10 = (n % 4194304) * 2 ^ 10 + n / 2 ^ 22 := by
    rw [Nat.or_comm]; exact or_add _ _ 10 (by show n / 4194304 < 1024; omega)
  rw [e2, e3]
  show (n % 4194304) * 1024 + n / 4194304 = n * 4294967297 / 4194304 % 4294967296
  have hg : n * 4294967297 / 4194304 = n / 4194304 + n * 1024 := by
    rw [show n * 4294967297 = n + n * 1024 * 4194304 from zz12, Nat.add_mul_div_right _ _ zz12]
  rw [hg]
  have hd := Nat.div_add_mod n 4194304
  have hr : n % 4194304 < 4194304 := Nat.mod_lt _ zz12
  generalize n / 4194304 = q at *
  generalize n % 4194304 = r at *
  subst hd
  omega
theorem rot25 (x : UInt32) : (rotlF x (-25)).toNat = Nat.shiftRight (dbl x.toNat) 25 % 4294967296 := by
  have hx := x.toNat_lt
  have h0 := rotR_eq x 25 zz12 zz12
  have h1 : (rotlF x (-25)).toNat = (rotR x 25).toNat := congrArg UInt32.toNat h0.symm
  rw [h1]
  unfold rotR
  rw [UInt32.toNat_or, sr_nat _ _ zz12, sl_nat _ _ zz12]
  have e : Nat.shiftRight (dbl x.toNat) 25 = x.toNat * 4294967297 / 33554432 := Nat.shiftRight_eq_div_pow _ 25
  rw [e]
  generalize x.toNat = n at hx
  have e2 : n * 2 ^ (32 - 25) % 4294967296 = (n % 33554432) * 2 ^ 7 := by
    show n * 128 % 4294967296 = (n % 33554432) * 128
    omega
  have e3 : n / 2 ^ 25 ||| (n % 33554432) * 2 ^ 7 = (n % 33554432) * 2 ^ 7 + n / 2 ^ 25 := by
    rw [Nat.or_comm]; exact or_add _ _ 7 (by show n / 33554432 < 128; omega)
  rw [e2, e3]
  show (n % 33554432) * 128 + n / 33554432 = n * 4294967297 / 33554432 % 4294967296
  have hg : n * 4294967297 / 33554432 = n / 33554432 + n * 128 := by
    rw [show n * 4294967297 = n + n * 128 * 33554432 from zz12, Nat.add_mul_div_right _ _ zz12]
  rw [hg]
  have hd := Nat.div_add_mod n 33554432
  have hr : n % 33554432 < 33554432 := Nat.mod_lt _ zz12
  generalize n / 33554432 = q at *
  generalize n % 33554432 = r at *
  subst hd
  omega
theorem bigS1 (x : UInt32) : (rotlF x (-6) ^^^ rotlF x (-11) ^^^ rotlF x (-25)).toNat = big 6 11 25 (dbl x.toNat) := by
  rw [UInt32.toNat_xor, UInt32.toNat_xor, rot6, rot11, rot25, ← xor_mod, ← xor_mod]; rfl
theorem bigS0 (x : UInt32) : (rotlF x (-2) ^^^ rotlF x (-13) ^^^ rotlF x (-22)).toNat = big 2 13 22 (dbl x.toNat) := by
  rw [UInt32.toNat_xor, UInt32.toNat_xor, rot2, rot13, rot22, ← xor_mod, ← xor_mod]; rfl
theorem smls1 (x : UInt32) : (rotlF x (-17) ^^^ rotlF x (-19) ^^^ sr32 x 10).toNat = sml 17 19 10 x.toNat (dbl x.toNat) := by
  have e : Nat.shiftRight x.toNat 10 = x.toNat / 2 ^ 10 := Nat.shiftRight_eq_div_pow _ 10
  rw [UInt32.toNat_xor, UInt32.toNat_xor, rot17, rot19, sr_nat _ _ zz12, ← xor_mod, ← e]; rfl
theorem smls0 (x : UInt32) : (rotlF x (-7) ^^^ rotlF x (-18) ^^^ sr32 x 3).toNat = sml 7 18 3 x.toNat (dbl x.toNat) := by
  have e : Nat.shiftRight x.toNat 3 = x.toNat / 2 ^ 3 := Nat.shiftRight_eq_div_pow _ 3
  rw [UInt32.toNat_xor, UInt32.toNat_xor, rot7, rot18, sr_nat _ _ zz12, ← xor_mod, ← e]; rfl
theorem not_nat (x : UInt32) : (~~~x).toNat = 4294967295 - x.toNat := by simp [UInt32.toNat_not]
theorem nw_eq (x0 x1 x9 x14 : UInt32) : ((rotlF x14 (-17) ^^^ rotlF x14 (-19) ^^^ sr32 x14 10) + x9 + (rotlF x1 (-7) ^^^ rotlF x1 (-18) ^^^ sr32 x1 3) + x0).toNat = nw x0.toNat x1.toNat x9.toNat x14.toNat := by
  rw [UInt32.toNat_add, UInt32.toNat_add, UInt32.toNat_add, smls1, smls0]
  show _ = (((sml 17 19 10 x14.toNat (dbl x14.toNat)) + x9.toNat) + (sml 7 18 3 x1.toNat (dbl x1.toNat)) + x0.toNat) % 4294967296
  omega
def wN (bs : List UInt8) (i : Nat) : Nat := ((wsF bs (i + 1)).getD i 0).toNat
theorem ws_get (bs : List UInt8) (n i : Nat) (h : i < n) : (wsF bs n).getD i 0 = (wsF bs (i + 1)).getD i 0 := by
  induction n with
  | zero => omega
  | succ n ih =>
    by_cases e : i = n
    · rw [e]
    · have hi : i < n := by omega
      rw [← ih hi]
      simp only [wsF, List.getD_eq_getElem?_getD]
      rw [List.getElem?_append_left (by rw [wsF_length]; exact hi)]
theorem ws_last (bs : List UInt8) (i : Nat) : (wsF bs (i + 1)).getD i 0 = if i < 16 then wordF bs i else mixF (wsF bs i) i := by
  simp only [wsF, List.getD_eq_getElem?_getD]
  rw [List.getElem?_append_right (by rw [wsF_length]; exact Nat.le_refl _), wsF_length, Nat.sub_self]; rfl
theorem wN_low (bs : List UInt8) (i : Nat) (h : i < 16) : wN bs i = (wordF bs i).toNat := by rw [wN, ws_last, if_pos h]
theorem wN_rec (bs : List UInt8) (i : Nat) : wN bs (i + 16) = nw (wN bs i) (wN bs (i + 1)) (wN bs (i + 9)) (wN bs (i + 14)) := by
  rw [wN, ws_last, if_neg zz12]
  unfold mixF
  rw [show i + 16 - 2 = i + 14 from zz12, show i + 16 - 7 = i + 9 from zz12, show i + 16 - 15 = i + 1 from zz12, show i + 16 - 16 = i from zz12]
  rw [nw_eq, ws_get bs (i + 16) i zz12, ws_get bs (i + 16) (i + 1) zz12, ws_get bs (i + 16) (i + 9) zz12, ws_get bs (i + 16) (i + 14) zz12]; rfl
theorem sch_eq (bs : List UInt8) : ∀ n i, sch n (wN bs i) (wN bs (i + 1)) (wN bs (i + 2)) (wN bs (i + 3)) (wN bs (i + 4)) (wN bs (i + 5)) (wN bs (i + 6)) (wN bs (i + 7)) (wN bs (i + 8)) (wN bs (i + 9)) (wN bs (i + 10)) (wN bs (i + 11)) (wN bs (i + 12)) (wN bs (i + 13)) (wN bs (i + 14)) (wN bs (i + 15)) = (List.range n).map fun j => wN bs (i + j)
  | 0, i => by simp [sch]
  | n + 1, i => by
    unfold sch
    rw [force_eq, ← wN_rec]
    have := sch_eq bs n (i + 1)
    rw [show i + 1 + 1 = i + 2 from zz12, show i + 1 + 2 = i + 3 from zz12, show i + 1 + 3 = i + 4 from zz12, show i + 1 + 4 = i + 5 from zz12, show i + 1 + 5 = i + 6 from zz12, show i + 1 + 6 = i + 7 from zz12, show i + 1 + 7 = i + 8 from zz12, show i + 1 + 8 = i + 9 from zz12, show i + 1 + 9 = i + 10 from zz12, show i + 1 + 10 = i + 11 from zz12, show i + 1 + 11 = i + 12 from zz12, show i + 1 + 12 = i + 13 from zz12, show i + 1 + 13 = i + 14 from zz12, show i + 1 + 14 = i + 15 from zz12, show i + 1 + 15 = i + 16 from zz12] at this
    rw [this, List.range_succ_eq_map, List.map_cons, List.map_map]
    congr 1
    apply List.map_congr_left
    intro j _
    show wN bs (i + 1 + j) = wN bs (i + (j + 1))
    congr 1; omega
def l8 (r : List UInt32) : List Nat := [(r.getD 0 0).toNat, (r.getD 1 0).toNat, (r.getD 2 0).toNat, (r.getD 3 0).toNat, (r.getD 4 0).toNat, (r.getD 5 0).toNat, (r.getD 6 0).toNat, (r.getD 7 0).toNat]
theorem t_eq (k w : UInt32) (r : List UInt32) : ∃ q, tN (r.getD 4 0).toNat (r.getD 5 0).toNat (r.getD 6 0).toNat (r.getD 7 0).toNat k.toNat w.toNat = (tF k w r).toNat + 4294967296 * q := by
  have e : tN (r.getD 4 0).toNat (r.getD 5 0).toNat (r.getD 6 0).toNat (r.getD 7 0).toNat k.toNat w.toNat =
      (r.getD 7 0).toNat + (rotlF (r.getD 4 0) (-6) ^^^ rotlF (r.getD 4 0) (-11) ^^^ rotlF (r.getD 4 0) (-25)).toNat + ((r.getD 4 0 &&& r.getD 5 0) ^^^ (~~~ r.getD 4 0 &&& r.getD 6 0)).toNat + k.toNat + w.toNat := by
    rw [bigS1, UInt32.toNat_xor, UInt32.toNat_and, UInt32.toNat_and, not_nat]; rfl
  rw [e]
  unfold tF
  rw [UInt32.toNat_add, UInt32.toNat_add, UInt32.toNat_add, UInt32.toNat_add]
  generalize (r.getD 7 0).toNat = a, (rotlF (r.getD 4 0) (-6) ^^^ rotlF (r.getD 4 0) (-11) ^^^ rotlF (r.getD 4 0) (-25)).toNat = b, ((r.getD 4 0 &&& r.getD 5 0) ^^^ (~~~ r.getD 4 0 &&& r.getD 6 0)).toNat = c, k.toNat = d, w.toNat = f
  exact ⟨(a + b + c + d + f) / 4294967296, zz12⟩
theorem u_eq (r : List UInt32) : ∃ q, uN (r.getD 0 0).toNat (r.getD 1 0).toNat (r.getD 2 0).toNat = (uF r).toNat + 4294967296 * q := by
  have e : uN (r.getD 0 0).toNat (r.getD 1 0).toNat (r.getD 2 0).toNat = (rotlF (r.getD 0 0) (-2) ^^^ rotlF (r.getD 0 0) (-13) ^^^ rotlF (r.getD 0 0) (-22)).toNat + ((r.getD 0 0 &&& r.getD 1 0) ^^^ (r.getD 0 0 &&& r.getD 2 0) ^^^ (r.getD 1 0 &&& r.getD 2 0)).toNat := by
    rw [bigS0, UInt32.toNat_xor, UInt32.toNat_xor, UInt32.toNat_and, UInt32.toNat_and, UInt32.toNat_and]; rfl
  rw [e]
  unfold uF
  rw [UInt32.toNat_add]
  generalize (rotlF (r.getD 0 0) (-2) ^^^ rotlF (r.getD 0 0) (-13) ^^^ rotlF (r.getD 0 0) (-22)).toNat = a, ((r.getD 0 0 &&& r.getD 1 0) ^^^ (r.getD 0 0 &&& r.getD 2 0) ^^^ (r.getD 1 0 &&& r.getD 2 0)).toNat = b
  exact ⟨(a + b) / 4294967296, zz12⟩
theorem rnd_one (k w : UInt32) (r : List UInt32) (ks ws : List Nat) : rnd (k.toNat :: ks) (w.toNat :: ws) (r.getD 0 0).toNat (r.getD 1 0).toNat (r.getD 2 0).toNat (r.getD 3 0).toNat (r.getD 4 0).toNat (r.getD 5 0).toNat (r.getD 6 0).toNat (r.getD 7 0).toNat =
    rnd ks ws ((roundF k w r).getD 0 0).toNat ((roundF k w r).getD 1 0).toNat ((roundF k w r).getD 2 0).toNat ((roundF k w r).getD 3 0).toNat ((roundF k w r).getD 4 0).toNat ((roundF k w r).getD 5 0).toNat ((roundF k w r).getD 6 0).toNat ((roundF k w r).getD 7 0).toNat := by
  obtain ⟨q, hq⟩ := t_eq k w r
  obtain ⟨p, hp⟩ := u_eq r
  have e1 : Nat.mod (Nat.add (tN (r.getD 4 0).toNat (r.getD 5 0).toNat (r.getD 6 0).toNat (r.getD 7 0).toNat k.toNat w.toNat) (uN (r.getD 0 0).toNat (r.getD 1 0).toNat (r.getD 2 0).toNat)) 4294967296 = (tF k w r + uF r).toNat := by
    rw [hq, hp, UInt32.toNat_add]
    show ((tF k w r).toNat + 4294967296 * q + ((uF r).toNat + 4294967296 * p)) % 4294967296 = _
    omega
  have e2 : Nat.mod (Nat.add (r.getD 3 0).toNat (tN (r.getD 4 0).toNat (r.getD 5 0).toNat (r.getD 6 0).toNat (r.getD 7 0).toNat k.toNat w.toNat)) 4294967296 = (r.getD 3 0 + tF k w r).toNat := by
    rw [hq, UInt32.toNat_add]
    show ((r.getD 3 0).toNat + ((tF k w r).toNat + 4294967296 * q)) % 4294967296 = _
    omega
  rw [rnd, force_eq, force_eq, force_eq, e1, e2]; rfl
theorem ksN_eq : ksN = rootsL.map (·.toNat) := by decide +kernel
theorem rnd_all (ws st : List UInt32) (T : Nat) (hT : rootsL.length = T) (hw : ws.length = T) : ∀ m i, i + m = T → rnd ((rootsL.map (·.toNat)).drop i) ((ws.map (·.toNat)).drop i) ((roundsF ws st i).getD 0 0).toNat ((roundsF ws st i).getD 1 0).toNat ((roundsF ws st i).getD 2 0).toNat ((roundsF ws st i).getD 3 0).toNat ((roundsF ws st i).getD 4 0).toNat ((roundsF ws st i).getD 5 0).toNat ((roundsF ws st i).getD 6 0).toNat ((roundsF ws st i).getD 7 0).toNat = l8 (roundsF ws st T)
  | 0, i, h => by
    obtain rfl : i = T := by omega
    rw [List.drop_of_length_le (by rw [List.length_map]; exact Nat.le_of_eq hT), List.drop_of_length_le (by rw [List.length_map, hw]; exact Nat.le_refl _)]
    simp [rnd, l8]
  | m + 1, i, h => by
    have e1 : (rootsL.map (·.toNat)).drop i = (rootsL.getD i 0).toNat :: (rootsL.map (·.toNat)).drop (i + 1) := by
      rw [List.drop_eq_getElem_cons (by rw [List.length_map]; omega), List.getElem_map, List.getD_eq_getElem?_getD, List.getElem?_eq_getElem zz12]; rfl
    have e2 : (ws.map (·.toNat)).drop i = (ws.getD i 0).toNat :: (ws.map (·.toNat)).drop (i + 1) := by
      rw [List.drop_eq_getElem_cons (by rw [List.length_map]; omega), List.getElem_map, List.getD_eq_getElem?_getD, List.getElem?_eq_getElem zz12]; rfl
    rw [e1, e2, rnd_one]
    exact rnd_all ws st T hT hw m (i + 1) zz12
def compN (s0 s1 s2 s3 s4 s5 s6 s7 : Nat) (ws : List Nat) : List Nat := match rnd ksN ws s0 s1 s2 s3 s4 s5 s6 s7 with
  | [a, b, c, d, e, f, g, h] => [Nat.mod (Nat.add s0 a) 4294967296, Nat.mod (Nat.add s1 b) 4294967296, Nat.mod (Nat.add s2 c) 4294967296, Nat.mod (Nat.add s3 d) 4294967296, Nat.mod (Nat.add s4 e) 4294967296, Nat.mod (Nat.add s5 f) 4294967296, Nat.mod (Nat.add s6 g) 4294967296, Nat.mod (Nat.add s7 h) 4294967296]
  | _ => []
theorem wsF_nat (bs : List UInt8) (n : Nat) : (wsF bs n).map (·.toNat) = (List.range n).map fun j => wN bs (0 + j) := by
  apply List.ext_getElem?
  intro j
  rw [List.getElem?_map, List.getElem?_map]
  by_cases h : j < n
  · rw [List.getElem?_eq_getElem (by rw [wsF_length]; exact h), List.getElem?_eq_getElem (by rw [List.length_range]; exact h)]
    simp only [Option.map_some, List.getElem_range, Nat.zero_add]
    have := ws_get bs n j h
    rw [List.getD_eq_getElem?_getD, List.getElem?_eq_getElem (by rw [wsF_length]; exact h)] at this
    rw [wN, ← this]; rfl
  · rw [List.getElem?_eq_none (by rw [wsF_length]; omega), List.getElem?_eq_none (by rw [List.length_range]; omega)]; rfl
theorem ws_sch (bs : List UInt8) (n : Nat) : (wsF bs n).map (·.toNat) = sch n (wordF bs 0).toNat (wordF bs 1).toNat (wordF bs 2).toNat (wordF bs 3).toNat (wordF bs 4).toNat (wordF bs 5).toNat (wordF bs 6).toNat (wordF bs 7).toNat (wordF bs 8).toNat (wordF bs 9).toNat (wordF bs 10).toNat (wordF bs 11).toNat (wordF bs 12).toNat (wordF bs 13).toNat (wordF bs 14).toNat (wordF bs 15).toNat := by
  rw [wsF_nat, ← sch_eq bs n 0]
  simp only [Nat.zero_add]
  rw [wN_low bs 0 zz12, wN_low bs 1 zz12, wN_low bs 2 zz12, wN_low bs 3 zz12, wN_low bs 4 zz12, wN_low bs 5 zz12, wN_low bs 6 zz12, wN_low bs 7 zz12, wN_low bs 8 zz12, wN_low bs 9 zz12, wN_low bs 10 zz12, wN_low bs 11 zz12, wN_low bs 12 zz12, wN_low bs 13 zz12, wN_low bs 14 zz12, wN_low bs 15 zz12]
theorem sum_get (st r : List UInt32) (h : st.length = 8) : sumN st r 8 = [st.getD 0 0 + r.getD 0 0, st.getD 1 0 + r.getD 1 0, st.getD 2 0 + r.getD 2 0, st.getD 3 0 + r.getD 3 0, st.getD 4 0 + r.getD 4 0, st.getD 5 0 + r.getD 5 0, st.getD 6 0 + r.getD 6 0, st.getD 7 0 + r.getD 7 0] := by
  match st, h with
  | [a, b, c, d, e, f, g, i], _ => simp [sumN]
theorem add_nat0 (st ws : List UInt32) (T : Nat) (hT : rootsL.length = T) (hw : ws.length = T) (h : st.length = 8) : l8 (sumN st (roundsF ws st T) 8) = compN (st.getD 0 0).toNat (st.getD 1 0).toNat (st.getD 2 0).toNat (st.getD 3 0).toNat (st.getD 4 0).toNat (st.getD 5 0).toNat (st.getD 6 0).toNat (st.getD 7 0).toNat (ws.map (·.toNat)) := by
  have hr := rnd_all ws st T hT hw T 0 (Nat.zero_add T)
  simp only [List.drop_zero] at hr
  rw [roundsF] at hr
  unfold compN
  rw [ksN_eq]
  generalize roundsF ws st T = r at hr ⊢
  rw [hr, sum_get st _ h]
  simp only [l8, List.getD_cons_zero, List.getD_cons_succ, UInt32.toNat_add]
  rfl
theorem add_nat (st : List UInt32) (bs : List UInt8) (h : st.length = 8) : l8 (addF st bs) = compN (st.getD 0 0).toNat (st.getD 1 0).toNat (st.getD 2 0).toNat (st.getD 3 0).toNat (st.getD 4 0).toNat (st.getD 5 0).toNat (st.getD 6 0).toNat (st.getD 7 0).toNat ((wsF bs 64).map (·.toNat)) :=
  add_nat0 st (wsF bs 64) 64 rootsL_length (wsF_length bs 64) h
end Go.Proofs.YtgnablliekgbgaaDoor
namespace Go.Proofs.YtgnablliekgbgaaDoor
open Go Go.PL Go.RowKit
def byteW (w k : Nat) : UInt8 := UInt8.ofNat (w / 2 ^ k)
def bytesW : List Nat → List UInt8
  | [] => []
  | w :: r => byteW w 24 :: byteW w 16 :: byteW w 8 :: byteW w 0 :: bytesW r
theorem bytesW_append (a b : List Nat) : bytesW (a ++ b) = bytesW a ++ bytesW b := by
  induction a with
  | nil => rfl
  | cons w r ih => simp only [List.cons_append, bytesW, ih]
theorem bytesW_length (a : List Nat) : (bytesW a).length = 4 * a.length := by
  induction a with
  | nil => rfl
  | cons w r ih => simp only [bytesW, List.length_cons, ih]; omega
theorem bytesW_get (a : List Nat) : ∀ i, i < a.length → (bytesW a).getD (4 * i) 0 = byteW (a.getD i 0) 24 ∧ (bytesW a).getD (4 * i + 1) 0 = byteW (a.getD i 0) 16 ∧ (bytesW a).getD (4 * i + 2) 0 = byteW (a.getD i 0) 8 ∧ (bytesW a).getD (4 * i + 3) 0 = byteW (a.getD i 0) 0 := by
  induction a with
  | nil => intro i hi; simp at hi
  | cons w r ih =>
    intro i hi
    cases i with
    | zero => exact ⟨rfl, rfl, rfl, rfl⟩
    | succ i =>
      have := ih i (by simpa using hi)
      rw [show 4 * (i + 1) = 4 * i + 1 + 1 + 1 + 1 from zz12, show 4 * i + 1 + 1 + 1 + 1 + 1 = (4 * i + 1) + 1 + 1 + 1 + 1 from zz12, show 4 * i + 1 + 1 + 1 + 1 + 2 = (4 * i + 2) + 1 + 1 + 1 + 1 from zz12, show 4 * i + 1 + 1 + 1 + 1 + 3 = (4 * i + 3) + 1 + 1 + 1 + 1 from zz12]
      exact this
theorem byteW_nat (w k : Nat) : (byteW w k).toNat = w / 2 ^ k % 256 := by unfold byteW; rw [UInt8.toNat_ofNat']
theorem bytesW_drop (a : List Nat) (i : Nat) : (bytesW a).drop (4 * i) = bytesW (a.drop i) := by
  induction i generalizing a with
  | zero => rfl
  | succ i ih =>
    cases a with
    | nil => simp [bytesW]
    | cons w r =>
      rw [show 4 * (i + 1) = 4 * i + 1 + 1 + 1 + 1 from zz12]
      simp only [bytesW, List.drop_succ_cons]
      exact ih r
theorem bytesW_take (a : List Nat) (i : Nat) : (bytesW a).take (4 * i) = bytesW (a.take i) := by
  induction i generalizing a with
  | zero => rfl
  | succ i ih =>
    cases a with
    | nil => simp [bytesW]
    | cons w r =>
      rw [show 4 * (i + 1) = 4 * i + 1 + 1 + 1 + 1 from zz12]
      simp only [bytesW, List.take_succ_cons, ih]
theorem word_W (a : List Nat) (i : Nat) (h : i < a.length) (hw : a.getD i 0 < 4294967296) : (wordF (bytesW a) i).toNat = a.getD i 0 := by
  obtain ⟨h0, h1, h2, h3⟩ := bytesW_get a i h
  rw [← word4_eq]
  have e : ∀ x : UInt8, (of32 (x.toNat : Int)).toNat = x.toNat := fun x => by
    have := x.toNat_lt
    have h := of32_toNat (x.toNat : Int)
    omega
  simp only [word4, UInt32.toNat_add, UInt32.toNat_mul, e, Nat.add_zero]
  simp only [h0, h1, h2, h3, byteW_nat]
  have z : (0 : UInt32).toNat = 0 := rfl
  have z2 : (256 : UInt32).toNat = 256 := rfl
  rw [z, z2]
  generalize a.getD i 0 = w at hw
  show (((((((0 * 256 % 4294967296 + w / 16777216 % 256) % 4294967296) * 256 % 4294967296 + w / 65536 % 256) % 4294967296) * 256 % 4294967296 + w / 256 % 256) % 4294967296) * 256 % 4294967296 + w / 1 % 256) % 4294967296 = w
  omega
def blkN (W : List Nat) (s : List Nat) : List Nat := match s with
  | [s0, s1, s2, s3, s4, s5, s6, s7] => compN s0 s1 s2 s3 s4 s5 s6 s7 (sch 64 (W.getD 0 0) (W.getD 1 0) (W.getD 2 0) (W.getD 3 0) (W.getD 4 0) (W.getD 5 0) (W.getD 6 0) (W.getD 7 0) (W.getD 8 0) (W.getD 9 0) (W.getD 10 0) (W.getD 11 0) (W.getD 12 0) (W.getD 13 0) (W.getD 14 0) (W.getD 15 0))
  | _ => []
def hashN : Nat → List Nat → List Nat → List Nat
  | 0, _, s => s
  | n + 1, W, s => hashN n (W.drop 16) (blkN W s)
def iniN : List Nat := [1779033703, 3144134277, 1013904242, 2773480762, 1359893119, 2600822924, 528734635, 1541459225]
theorem blk_eq (st : List UInt32) (W : List Nat) (h : st.length = 8) (hW : 16 ≤ W.length) (hw : ∀ x ∈ W, x < 4294967296) : l8 (addF st (bytesW (W.take 16))) = blkN W (l8 st) := by
  have g : ∀ i, i < 16 → (wordF (bytesW (W.take 16)) i).toNat = W.getD i 0 := fun i hi => by
    have hl : (W.take 16).length = 16 := by rw [List.length_take]; omega
    have e : (W.take 16).getD i 0 = W.getD i 0 := by
      simp only [List.getD_eq_getElem?_getD]; rw [List.getElem?_take, if_pos hi]
    rw [word_W _ _ zz12, e]
    rw [e, List.getD_eq_getElem?_getD, List.getElem?_eq_getElem zz12]
    exact hw _ (List.getElem_mem _)
  rw [add_nat _ _ h, ws_sch, g 0 zz12, g 1 zz12, g 2 zz12, g 3 zz12, g 4 zz12, g 5 zz12, g 6 zz12, g 7 zz12, g 8 zz12, g 9 zz12, g 10 zz12, g 11 zz12, g 12 zz12, g 13 zz12, g 14 zz12, g 15 zz12]
  rfl
theorem hash_eq : ∀ (n : Nat) (W : List Nat) (st : List UInt32), st.length = 8 → W.length = 16 * n → (∀ x ∈ W, x < 4294967296) → l8 ((chunksF (bytesW W)).foldl addF st) = hashN n W (l8 st)
  | 0, W, st, h, hW, hw => by
    obtain rfl : W = [] := List.eq_nil_of_length_eq_zero zz12
    rfl
  | n + 1, W, st, h, hW, hw => by
    have hc : chunksF (bytesW W) = bytesW (W.take 16) :: chunksF (bytesW (W.drop 16)) := by
      unfold chunksF
      have l1 := bytesW_length W
      have l2 := bytesW_length (W.drop 16)
      rw [List.length_drop] at l2
      rw [show (bytesW W).length / 64 = (bytesW (W.drop 16)).length / 64 + 1 from zz12, List.range_succ_eq_map, List.map_cons, List.map_map]
      congr 1
      · exact bytesW_take W 16
      · apply List.map_congr_left
        intro i _
        show ((bytesW W).drop (64 * (i + 1))).take 64 = ((bytesW (W.drop 16)).drop (64 * i)).take 64
        rw [← bytesW_drop W 16, List.drop_drop]
        congr 2; omega
    rw [hc, List.foldl_cons, hash_eq n (W.drop 16) _ ((addF_length _ _).trans h) zz38 (fun x hx => hw x (List.mem_of_mem_drop hx)), hashN]
    congr 1
    exact blk_eq st W h zz12 hw
theorem outN_list (st : List UInt32) : ∀ i, i ≤ 32 → outN st i = ((List.range i).map fun j => of8 (sr32 (st.getD (j / 4) 0) (24 - 8 * (j % 4))).toNat) ++ List.replicate (32 - i) 0
  | 0, _ => by simp [outN]
  | i + 1, h => by
    rw [outN, outN_list st i zz12, List.range_succ, List.map_append]
    have e : List.replicate (32 - i) (0 : UInt8) = 0 :: List.replicate (32 - (i + 1)) 0 := by
      rw [show 32 - i = (32 - (i + 1)) + 1 from zz12, List.replicate_succ]
    rw [e, List.set_append_right i _ zz40, List.length_map, List.length_range, Nat.sub_self, List.set_cons_zero, List.append_assoc]
    rfl
theorem of8_W (x : UInt32) (k : Nat) (hk : k ≤ 32) : of8 ((sr32 x k).toNat : Int) = byteW x.toNat k := by
  apply UInt8.toNat_inj.1
  have h := of8_toNat ((sr32 x k).toNat : Int)
  rw [byteW_nat, ← sr_nat x k hk]; omega
theorem out_W (st : List UInt32) : outN st 32 = bytesW (l8 st) := by
  rw [outN_list st 32 (Nat.le_refl _), Nat.sub_self, List.replicate_zero, List.append_nil]
  show [of8 (sr32 (st.getD 0 0) 24).toNat, of8 (sr32 (st.getD 0 0) 16).toNat, of8 (sr32 (st.getD 0 0) 8).toNat, of8 (sr32 (st.getD 0 0) 0).toNat,
    of8 (sr32 (st.getD 1 0) 24).toNat, of8 (sr32 (st.getD 1 0) 16).toNat, of8 (sr32 (st.getD 1 0) 8).toNat, of8 (sr32 (st.getD 1 0) 0).toNat,
    of8 (sr32 (st.getD 2 0) 24).toNat, of8 (sr32 (st.getD 2 0) 16).toNat, of8 (sr32 (st.getD 2 0) 8).toNat, of8 (sr32 (st.getD 2 0) 0).toNat,
    of8 (sr32 (st.getD 3 0) 24).toNat, of8 (sr32 (st.getD 3 0) 16).toNat, of8 (sr32 (st.getD 3 0) 8).toNat, of8 (sr32 (st.getD 3 0) 0).toNat,
    of8 (sr32 (st.getD 4 0) 24).toNat, of8 (sr32 (st.getD 4 0) 16).toNat, of8 (sr32 (st.getD 4 0) 8).toNat, of8 (sr32 (st.getD 4 0) 0).toNat,
    of8 (sr32 (st.getD 5 0) 24).toNat, of8 (sr32 (st.getD 5 0) 16).toNat, of8 (sr32 (st.getD 5 0) 8).toNat, of8 (sr32 (st.getD 5 0) 0).toNat,
    of8 (sr32 (st.getD 6 0) 24).toNat, of8 (sr32 (st.getD 6 0) 16).toNat, of8 (sr32 (st.getD 6 0) 8).toNat, of8 (sr32 (st.getD 6 0) 0).toNat,
    of8 (sr32 (st.getD 7 0) 24).toNat, of8 (sr32 (st.getD 7 0) 16).toNat, of8 (sr32 (st.getD 7 0) 8).toNat, of8 (sr32 (st.getD 7 0) 0).toNat] = _
  simp only [of8_W _ 24 zz12, of8_W _ 16 zz12, of8_W _ 8 zz12, of8_W _ 0 zz12]
  rfl
theorem sum_W (bs : List UInt8) (n : Nat) (W : List Nat) (hp : padF bs = bytesW W) (hl : W.length = 16 * n) (hw : ∀ x ∈ W, x < 4294967296) : sumF bs = bytesW (hashN n W iniN) := by
  unfold sumF
  rw [out_W, hp]
  congr 1
  exact hash_eq n W initS rfl hl hw
theorem short_W (bs : List UInt8) (n : Nat) (W : List Nat) (hp : padF bs = bytesW W) (hl : W.length = 16 * n) (hw : ∀ x ∈ W, x < 4294967296) : shortF bs = bytesW ((hashN n W iniN).take 4) := by
  unfold shortF
  rw [sum_W bs n W hp hl hw]; exact bytesW_take _ 4
end Go.Proofs.YtgnablliekgbgaaDoor
namespace Go.Proofs.YtgnablliekgbgaaDoor
open Go Go.PL Go.RowKit
def V4 (x : List Nat) : Prop := x.length = 4 ∧ ∀ y ∈ x, y < 4294967296
theorem l8_take (r : List UInt32) : V4 ((l8 r).take 4) := by
  refine ⟨rfl, fun y hy => ?_⟩
  have h2 : ∀ z ∈ l8 r, z < 4294967296 := by
    intro z hz
    simp only [l8, List.mem_cons, List.not_mem_nil, or_false] at hz
    rcases hz with rfl | rfl | rfl | rfl | rfl | rfl | rfl | rfl <;> exact UInt32.toNat_lt _
  exact h2 y (List.mem_of_mem_take hy)
def padS (i j : Nat) : List Nat := [i * 16777216 + j * 65536 + 32768, 0, 0, 0, 0, 0, 0, 0, 0, 0, 0, 144]
def stepN (x : List Nat) (i j : Nat) : List Nat := (blkN (x ++ padS i j) iniN).take 4
theorem padF_of (bs : List UInt8) (n : Nat) (h : bs.length = n) : padF bs = bs ++ ([128] ++ List.replicate (zc n) 0 ++ lenBMm (of64 n * 8) 8) := by
  subst h; unfold padF; simp only [List.append_assoc]
theorem tail18 : ([128] ++ List.replicate (zc 18) 0 ++ lenBMm (of64 ((18 : Nat) : Int) * 8) 8 : List UInt8) = [128, 0] ++ bytesW [0, 0, 0, 0, 0, 0, 0, 0, 0, 0, 144] := by decide +kernel
theorem tail560 : ([128] ++ List.replicate (zc 560) 0 ++ lenBMm (of64 ((560 : Nat) : Int) * 8) 8 : List UInt8) = bytesW [2147483648, 0, 0, 4480] := by decide +kernel
theorem byteW_i (i j : Nat) (hi : i < 256) (hj : j < 256) : bytesW [i * 16777216 + j * 65536 + 32768] = [of8 (i : Int), of8 (j : Int), 128, 0] := by
  have e : ∀ (k : Nat) (b : UInt8), (i * 16777216 + j * 65536 + 32768) / 2 ^ k % 256 = b.toNat → byteW (i * 16777216 + j * 65536 + 32768) k = b := fun k b h => UInt8.toNat_inj.1 (by rw [byteW_nat]; exact h)
  have hi2 := of8_toNat (i : Int)
  have hj2 := of8_toNat (j : Int)
  simp only [bytesW]
  rw [e 24 (of8 i) (by show (i * 16777216 + j * 65536 + 32768) / 16777216 % 256 = _; omega), e 16 (of8 j) (by show (i * 16777216 + j * 65536 + 32768) / 65536 % 256 = _; omega), e 8 128 (by show (i * 16777216 + j * 65536 + 32768) / 256 % 256 = 128; omega), e 0 0 (by show (i * 16777216 + j * 65536 + 32768) / 1 % 256 = 0; omega)]
theorem step_W (x : List Nat) (hx : V4 x) (i j : Nat) (hi : i < 256) (hj : j < 256) : stepF (bytesW x) i j = bytesW (stepN x i j) ∧ V4 (stepN x i j) := by
  have hl : (x ++ padS i j).length = 16 := by rw [List.length_append, hx.1]; rfl
  have hw : ∀ y ∈ x ++ padS i j, y < 4294967296 := by
    intro y hy
    rcases List.mem_append.1 hy with hy | hy
    · exact hx.2 y hy
    · simp only [padS, List.mem_cons, List.not_mem_nil, or_false] at hy
      omega
  have hp : padF (bytesW x ++ [of8 (i : Int), of8 (j : Int)]) = bytesW (x ++ padS i j) := by
    rw [padF_of _ 18 (by rw [List.length_append, bytesW_length, hx.1]; rfl), tail18, bytesW_append, List.append_assoc]
    congr 1
    have h4 := byteW_i i j hi hj
    have e : padS i j = [i * 16777216 + j * 65536 + 32768] ++ [0, 0, 0, 0, 0, 0, 0, 0, 0, 0, 144] := rfl
    rw [e, bytesW_append, h4]; rfl
  have hb := blk_eq initS (x ++ padS i j) rfl zz12 hw
  have e0 : l8 initS = iniN := rfl
  rw [e0] at hb
  have hh : hashN 1 (x ++ padS i j) iniN = blkN (x ++ padS i j) iniN := rfl
  refine ⟨?_, ?_⟩
  · unfold stepF
    rw [short_W _ 1 _ hp zz12 hw, hh]; rfl
  · unfold stepN
    rw [← hb]; exact l8_take _
def climbN (x : List Nat) (i f : Nat) : Nat → List Nat
  | 0 => x
  | n + 1 => stepN (climbN x i f n) i (f + n)
theorem climb_W (x : List Nat) (hx : V4 x) (i f : Nat) (hi : i < 256) : ∀ n, f + n ≤ 256 → climbF (bytesW x) i f n = bytesW (climbN x i f n) ∧ V4 (climbN x i f n)
  | 0, _ => ⟨rfl, hx⟩
  | n + 1, h => by
    obtain ⟨h1, h2⟩ := climb_W x hx i f hi n zz12
    rw [climbF, h1, climbN]
    exact step_W _ h2 i (f + n) hi zz12
def chainN (x : List Nat) (i h : Nat) : List Nat := climbN (stepN x i 255) i 0 h
theorem chain_W (x : List Nat) (hx : V4 x) (i h : Nat) (hi : i < 256) (hh : h ≤ 256) : chainF (bytesW x) i h = bytesW (chainN x i h) ∧ V4 (chainN x i h) := by
  obtain ⟨h1, h2⟩ := step_W x hx i 255 hi zz12
  rw [chainF, beginF, h1, chainN]
  exact climb_W _ h2 i 0 hi h zz12
def accN (E : Nat → List Nat) : Nat → List Nat
  | 0 => []
  | n + 1 => accN E n ++ E n
theorem acc_W (E : Nat → List UInt8) (EN : Nat → List Nat) (n : Nat) (h : ∀ i, i < n → E i = bytesW (EN i) ∧ V4 (EN i)) : ∀ k, k ≤ n → accF E k = bytesW (accN EN k) ∧ (accN EN k).length = 4 * k ∧ ∀ y ∈ accN EN k, y < 4294967296
  | 0, _ => ⟨rfl, rfl, fun y hy => by cases hy⟩
  | k + 1, hk => by
    obtain ⟨h1, h2, h3⟩ := acc_W E EN n h k zz12
    obtain ⟨e1, e2⟩ := h k zz12
    rw [accF, accN, h1, e1, bytesW_append]
    refine ⟨rfl, by rw [List.length_append, h2, e2.1]; omega, fun y hy => ?_⟩
    rcases List.mem_append.1 hy with hy | hy
    · exact h3 y hy
    · exact e2.2 y hy
theorem short140 (A : List Nat) (hl : A.length = 140) (hw : ∀ y ∈ A, y < 4294967296) : shortF (bytesW A) = bytesW ((hashN 9 (A ++ [2147483648, 0, 0, 4480]) iniN).take 4) := by
  refine short_W _ 9 _ ?_ (by rw [List.length_append, hl]; rfl) fun y hy => ?_
  · rw [padF_of _ 560 (by rw [bytesW_length, hl]), tail560, bytesW_append]
  · rcases List.mem_append.1 hy with hy | hy
    · exact hw y hy
    · simp only [List.mem_cons, List.not_mem_nil, or_false] at hy
      omega
theorem tab_group (x : List Nat) (T : List (List Nat)) (q : Nat) (h0 : ((List.range' 0 5).all fun i => decide (chainN x i q = T.getD i [])) = true) (h1 : ((List.range' 5 5).all fun i => decide (chainN x i q = T.getD i [])) = true)
    (h2 : ((List.range' 10 5).all fun i => decide (chainN x i q = T.getD i [])) = true) (h3 : ((List.range' 15 5).all fun i => decide (chainN x i q = T.getD i [])) = true) (h4 : ((List.range' 20 5).all fun i => decide (chainN x i q = T.getD i [])) = true)
    (h5 : ((List.range' 25 5).all fun i => decide (chainN x i q = T.getD i [])) = true) (h6 : ((List.range' 30 5).all fun i => decide (chainN x i q = T.getD i [])) = true) (i : Nat) (hi : i < 35) : chainN x i q = T.getD i [] := by
  have key : ∀ (a : Nat), ((List.range' a 5).all fun i => decide (chainN x i q = T.getD i [])) = true → a ≤ i → i < a + 5 → chainN x i q = T.getD i [] := fun a h ha hb => by
    rw [List.all_eq_true] at h
    have := h i (by simp [List.mem_range']; exact ⟨i - a, zz12, zz12⟩)
    simpa using this
  by_cases c0 : i < 5
  · exact key 0 h0 zz12 zz12
  by_cases c1 : i < 10
  · exact key 5 h1 zz12 zz12
  by_cases c2 : i < 15
  · exact key 10 h2 zz12 zz12
  by_cases c3 : i < 20
  · exact key 15 h3 zz12 zz12
  by_cases c4 : i < 25
  · exact key 20 h4 zz12 zz12
  by_cases c5 : i < 30
  · exact key 25 h5 zz12 zz12
  · exact key 30 h6 zz12 zz12
theorem accN_congr (E F : Nat → List Nat) (n : Nat) (h : ∀ i, i < n → E i = F i) : ∀ k, k ≤ n → accN E k = accN F k
  | 0, _ => rfl
  | k + 1, hk => by rw [accN, accN, accN_congr E F n h k zz12, h k zz12]
theorem v4_of (x : List Nat) (h : (decide (x.length = 4) && x.all fun y => decide (y < 4294967296)) = true) : V4 x := by
  simp only [Bool.and_eq_true, decide_eq_true_eq, List.all_eq_true] at h
  exact ⟨h.1, fun y hy => by simpa using h.2 y hy⟩
theorem public_W0 (x : List Nat) (T : List (List Nat)) (q : Nat) (hq : q ≤ 256) (hx : V4 x) (hT : ∀ i, i < 35 → chainN x i q = T.getD i []) (m : Nat) (hm : m = 35) (r : List Nat) (hr : (hashN 9 (accN (fun i => T.getD i []) m ++ [2147483648, 0, 0, 4480]) iniN).take 4 = r) : shortF (accF (fun i => chainF (bytesW x) i q) m) = bytesW r := by
  obtain ⟨h1, h2, h3⟩ := acc_W (fun i => chainF (bytesW x) i q) (fun i => chainN x i q) m (fun i hi => chain_W x hx i q zz12 hq) m (Nat.le_refl _)
  rw [h1, short140 _ zz12 h3, accN_congr _ (fun i => T.getD i []) m (fun i hi => hT i zz12) m (Nat.le_refl _), hr]
theorem public_eq (s : List UInt8) : publicF s = shortF (accF (fun i => chainF s i 15) 35) := rfl
theorem public_W (x : List Nat) (T : List (List Nat)) (hx : (decide (x.length = 4) && x.all fun y => decide (y < 4294967296)) = true) (hT : ∀ i, i < 35 → chainN x i 15 = T.getD i []) (r : List Nat) (hr : (hashN 9 (accN (fun i => T.getD i []) 35 ++ [2147483648, 0, 0, 4480]) iniN).take 4 = r) : publicF (bytesW x) = bytesW r :=
  (public_eq _).trans (public_W0 x T 15 zz12 (v4_of x hx) hT 35 rfl r hr)
end Go.Proofs.YtgnablliekgbgaaDoor
namespace Go.Proofs.YtgnablliekgbgaaDoor
open Go Go.PL Go.RowKit
def tab_r0 : List (List Nat) := [[436023232, 4128130500, 341903395, 3425006361], [273476631, 852685674, 1748287330, 1282631467], [508942309, 3829651250, 448537540, 902012615], [3710070846, 1246964169, 496324440, 565630095], [2794587545, 3333564193, 2347280478, 3423960949], [3275778328, 3311432571, 1862477660, 2062710906], [181279466, 3996939093, 2866210071, 3581990955], [334646181, 4201670972, 3490965126, 286523264], [2316171047, 841589200, 1797078818, 3913449256], [3532175103, 1057700301, 1779968586, 2324850485], [911179230, 946155354, 3714972803, 1089073903], [1209863676, 1257861244, 2408471141, 3782508140], [456056858, 2008472903, 1314710196, 2026296674], [1866043124, 560190656, 41624800, 1486437967], [3503865315, 305211866, 1038821336, 636867639], [592174778, 379437969, 3353899356, 1191157252], [3942689120, 2367592093, 588169109, 2840603563], [2977790077, 1283965407, 541377444, 1218438839], [3680303619, 2069638606, 1430568484, 3815697653], [1601787034, 2233085904, 4136699426, 1302844303], [513645999, 3533171165, 1830383640, 710974614], [1121924441, 662052671, 1151993959, 2631777335], [491497730, 2089691781, 3095398339, 3986725260], [1424808526, 252265514, 3138598767, 1219966525], [597804045, 2780597320, 3832297588, 3894069020], [2422470213, 2395549004, 599601363, 485738551], [2904357984, 2426779392, 2659216217, 3007224978], [1406331313, 3650754441, 440201422, 1027069359], [2865209647, 1420596765, 3474288958, 225908328], [3634403433, 542351352, 3686735407, 577524619], [3914351970, 4292223176, 112016036, 1897336734], [599239736, 834234995, 1380992985, 1051525488], [3937209177, 4228415639, 1007600946, 3532968579], [2695345149, 626322395, 1007538441, 3008404558], [375727231, 631802925, 3289295589, 4088071296]]
theorem tab_r0_0 : ((List.range' 0 5).all fun i => decide (chainN [3999887032, 1498582258, 2779630838, 671094439] i 15 = tab_r0.getD i [])) = true := by decide +kernel
theorem tab_r0_1 : ((List.range' 5 5).all fun i => decide (chainN [3999887032, 1498582258, 2779630838, 671094439] i 15 = tab_r0.getD i [])) = true := by decide +kernel
theorem tab_r0_2 : ((List.range' 10 5).all fun i => decide (chainN [3999887032, 1498582258, 2779630838, 671094439] i 15 = tab_r0.getD i [])) = true := by decide +kernel
theorem tab_r0_3 : ((List.range' 15 5).all fun i => decide (chainN [3999887032, 1498582258, 2779630838, 671094439] i 15 = tab_r0.getD i [])) = true := by decide +kernel
theorem tab_r0_4 : ((List.range' 20 5).all fun i => decide (chainN [3999887032, 1498582258, 2779630838, 671094439] i 15 = tab_r0.getD i [])) = true := by decide +kernel
theorem tab_r0_5 : ((List.range' 25 5).all fun i => decide (chainN [3999887032, 1498582258, 2779630838, 671094439] i 15 = tab_r0.getD i [])) = true := by decide +kernel
theorem tab_r0_6 : ((List.range' 30 5).all fun i => decide (chainN [3999887032, 1498582258, 2779630838, 671094439] i 15 = tab_r0.getD i [])) = true := by decide +kernel
theorem tab_r0_all (i : Nat) (hi : i < 35) : chainN [3999887032, 1498582258, 2779630838, 671094439] i 15 = tab_r0.getD i [] := tab_group [3999887032, 1498582258, 2779630838, 671094439] tab_r0 15 tab_r0_0 tab_r0_1 tab_r0_2 tab_r0_3 tab_r0_4 tab_r0_5 tab_r0_6 i hi
theorem pub_r0 : publicF (bytesW [3999887032, 1498582258, 2779630838, 671094439]) = bytesW [3507569659, 1998534993, 2842027681, 937033595] := public_W [3999887032, 1498582258, 2779630838, 671094439] tab_r0 zz19 tab_r0_all _ zz49
end Go.Proofs.YtgnablliekgbgaaDoor
namespace Go.Proofs.YtgnablliekgbgaaDoor
open Go Go.PL Go.RowKit
theorem e45 (c : UInt8) : (c = 45) ↔ c.toNat = 45 := by rw [← UInt8.toNat_inj]; rfl
theorem e95 (c : UInt8) : (c = 95) ↔ c.toNat = 95 := by rw [← UInt8.toNat_inj]; rfl
theorem name_bad {xs : List UInt8} {i : Nat} (h : i < xs.length) (hg : goodB (xs.getD i 0) = false) : nameF xs = false := by
  have : xs.all goodB = false := by
    rw [List.all_eq_false]
    refine ⟨xs[i], List.getElem_mem h, ?_⟩
    rw [List.getD_eq_getElem?_getD, List.getElem?_eq_getElem h] at hg
    simpa using hg
  unfold nameF; rw [this, Bool.and_false]
theorem name_all {xs : List UInt8} (h : ∀ j, j < xs.length → goodB (xs.getD j 0) = true) : nameF xs = (decide (1 ≤ xs.length) && decide (xs.length ≤ 40)) := by
  have : xs.all goodB = true := by
    rw [List.all_eq_true]
    intro x hx
    obtain ⟨j, hj, rfl⟩ := List.mem_iff_getElem.1 hx
    have := h j hj
    rwa [List.getD_eq_getElem?_getD, List.getElem?_eq_getElem hj] at this
  unfold nameF; rw [this, Bool.and_true]
theorem good (ht : Int) (w : World)   :
    Calls Tryd.prog 32 [.int .i64 ht].toArray w (Pur w (.bool (decide (0 ≤ ht ∧ ht ≤ 4)))) := by
  refine enter (m := 9) (R := Mem w [] [] []) Tryd.func32 rfl rfl (Nat.le_of_ble_eq_true rfl) (Mem.start w) ?_
  refine wpc_seq <| wpc_region <| wpl_q (q_pure rfl) rfl <| wpl_nil <| ex_then <| wpc_seq <| wpc_region <| wpl_q (q_pure rfl) rfl <| wpl_q (q_pure rfl) rfl <| wpl_q (q_pure rfl) rfl ?_
  refine wpl_bool2 5 4 rfl rfl (fun hb5 => ?_) (fun hb5 => ?_)
  ·
   try simp only [decide_eq_true_eq, decide_eq_false_iff_not, Bool.and_eq_true, Bool.or_eq_true, beq_iff_eq, bne_iff_ne, ne_eq, Bool.not_eq_true', Bool.not_eq_false', Decidable.not_not] at hb5
   refine wpl_on rfl rfl <| wpl_q (q_pure rfl) rfl <| wpl_on rfl rfl <| wpl_q (q_pure rfl) rfl <| wpl_q (q_pure rfl) rfl <| wpl_q (q_pure rfl) rfl <| wpl_nil <| ex_then <| wpc_ret ?_
   refine ret1 (.inl rfl) rfl rfl ?_
   exact fun w h => ⟨zz50, h.below⟩
  ·
   try simp only [decide_eq_true_eq, decide_eq_false_iff_not, Bool.and_eq_true, Bool.or_eq_true, beq_iff_eq, bne_iff_ne, ne_eq, Bool.not_eq_true', Bool.not_eq_false', Decidable.not_not] at hb5
   refine wpl_off rfl rfl rfl rfl <| wpl_off rfl rfl rfl rfl <| wpl_q (q_pure rfl) rfl <| wpl_q (q_pure rfl) rfl <| wpl_nil <| ex_then <| wpc_ret ?_
   refine ret1 (.inl rfl) rfl rfl ?_
   exact fun w h => ⟨zz50, h.below⟩
theorem check7 (ht : Int) (ix : Int) (cv pv : Value) (chs ps : List (List UInt8)) (w : World) (hcv : SV cv chs.length) (hpv : SV pv ps.length)  :
    Calls Tryd.prog 31 [.int .i64 ht, .agg #[.int .i64 ix, cv, pv]].toArray w (Pur w (.int .i64 (sgChk ht ix chs.length ps.length))) := by
  haveI : OneC [.int .i64 ix, cv, pv] := OneC.cons rfl (OneC.cons (SV.one hcv) (OneC.cons (SV.one hpv) oneC_nil))
  have lcv := hcv.le
  have lpv := hpv.le
  simp only [maxLen] at lcv lpv
  refine enter (m := 31) (R := Mem w [] [] []) Tryd.func31 rfl rfl (Nat.le_of_ble_eq_true rfl) (Mem.start w) ?_
  refine wpc_seq <| wpc_region ?_
  refine wpl_t (t_box rfl [.int .i64 ix, cv, pv] rfl) rfl (fun b3 => ?_)
  refine wpl_q (q_pure rfl) rfl <| wpl_nil <| ex_then <| wpc_seq <| wpc_seq <| wpc_region <| wpl_q (q_pure rfl) rfl ?_
  refine wpl_t (t_pur Tryd.hb32 rfl fun w h => good _ w) rfl (fun b6 => ?_)
  refine wpl_q (q_pure rfl) rfl <| wpl_nil <| ex_then ?_
  refine wpc_cond rfl (fun hc7 => ?_) (fun hc7 => ?_)
  ·
   try simp only [decide_eq_true_eq, decide_eq_false_iff_not, Bool.and_eq_true, Bool.or_eq_true, beq_iff_eq, bne_iff_ne, ne_eq, Bool.not_eq_true', Bool.not_eq_false', Decidable.not_not] at hc7
   refine wpc_seq <| wpc_region <| wpl_q (q_pure rfl) rfl <| wpl_nil <| ex_then <| wpc_ret ?_
   refine ex_then_ret ?_
   refine ret1 (.inl rfl) rfl rfl ?_
   exact fun w h => ⟨by rw [check_2 hc7], h.below⟩
  ·
   simp only [Bool.not_eq_false', decide_eq_true_eq] at hc7
   obtain ⟨m, rfl⟩ : ∃ m : Nat, ht = (m : Int) := ⟨ht.toNat, zz12⟩
   have hpw := pow_le16 (m := m) zz12
   refine wpc_skip <| ex_then <| wpc_seq <| wpc_seq ?_
   refine wpc_draw 23 zz7 (fun _ h => h.drew) ?_
   refine wpd_p 0 rfl zz7 trivial (q_field Tryd.underlying30 rfl Tryd.ti3 rfl rfl _ rfl) rfl sk0 ?_
   refine wpd_q 1 rfl zz7 trivial (q_ld Tryd.underlying3 rfl rfl zz23) rfl (fun _ h => h) ?_
   refine wpd_p 2 rfl zz7 trivial (q_pure rfl) rfl sk0 ?_
   refine wpd_p 3 rfl zz7 trivial (q_pure rfl) rfl sk0 ?_
   refine wpd_bool2 11 10 rfl rfl (fun hb11 => ?_) (fun hb11 => ?_)
   ·
    try simp only [decide_eq_true_eq, decide_eq_false_iff_not, Bool.and_eq_true, Bool.or_eq_true, beq_iff_eq, bne_iff_ne, ne_eq, Bool.not_eq_true', Bool.not_eq_false', Decidable.not_not] at hb11
    refine wpd_off 4 rfl zz7 ⟨_, _, rfl, rfl, rfl⟩ rfl sk0 ?_
    refine wpd_off 5 rfl zz7 ⟨_, _, rfl, rfl, rfl⟩ rfl sk0 ?_
    refine wpd_off 6 rfl zz7 ⟨_, _, rfl, rfl, rfl⟩ rfl sk0 ?_
    refine wpd_off 7 rfl zz7 ⟨_, _, rfl, rfl, rfl⟩ rfl sk0 ?_
    refine wpd_off 8 rfl zz7 ⟨_, _, rfl, rfl, rfl⟩ rfl sk0 ?_
    refine wpd_p 9 rfl zz7 trivial (q_pure rfl) rfl sk0 ?_
    refine wpd_p 10 rfl zz7 trivial (q_pure rfl) rfl sk0 ?_
    refine wpd_off 11 rfl zz7 ⟨_, _, rfl, rfl, rfl⟩ rfl sk0 ?_
    refine wpd_off 12 rfl zz7 ⟨_, _, rfl, rfl, rfl⟩ rfl sk0 ?_
    refine wpd_off 13 rfl zz7 ⟨_, _, rfl, rfl, rfl⟩ rfl sk0 ?_
    refine wpd_off 14 rfl zz7 ⟨_, _, rfl, rfl, rfl⟩ rfl sk0 ?_
    refine wpd_p 15 rfl zz7 trivial (q_pure rfl) rfl sk0 ?_
    refine wpd_p 16 rfl zz7 trivial (q_pure rfl) rfl sk0 ?_
    refine wpd_off 17 rfl zz7 ⟨_, _, rfl, rfl, rfl⟩ rfl sk0 ?_
    refine wpd_off 18 rfl zz7 ⟨_, _, rfl, rfl, rfl⟩ rfl sk0 ?_
    refine wpd_off 19 rfl zz7 ⟨_, _, rfl, rfl, rfl⟩ rfl sk0 ?_
    refine wpd_off 20 rfl zz7 ⟨_, _, rfl, rfl, rfl⟩ rfl sk0 ?_
    refine wpd_off 21 rfl zz7 ⟨_, _, rfl, rfl, rfl⟩ rfl sk0 ?_
    refine wpd_p 22 rfl zz7 trivial (q_pure rfl) rfl sk0 ?_
    refine wpd_done zz7 ?_
    refine ex_then ?_
    refine wpc_cond_t rfl ?_
    refine wpc_seq <| wpc_region <| wpl_q (q_pure rfl) rfl <| wpl_nil <| ex_then <| wpc_ret ?_
    refine ex_then_ret ?_
    refine ret1 (.inl rfl) rfl rfl ?_
    exact fun w h => ⟨by rw [check_12 zz12 zz35], h.below⟩
   ·
    try simp only [decide_eq_true_eq, decide_eq_false_iff_not, Bool.and_eq_true, Bool.or_eq_true, beq_iff_eq, bne_iff_ne, ne_eq, Bool.not_eq_true', Bool.not_eq_false', Decidable.not_not] at hb11
    refine wpd_p 4 rfl zz7 ⟨_, rfl, rfl⟩ (q_field Tryd.underlying30 rfl Tryd.ti3 rfl rfl _ rfl) rfl sk0 ?_
    refine wpd_q 5 rfl zz7 ⟨_, rfl, rfl⟩ (q_ld Tryd.underlying3 rfl rfl zz23) rfl (fun _ h => h) ?_
    refine wpd_p 6 rfl zz7 ⟨_, rfl, rfl⟩ (q_pure rfl) rfl sk0 ?_
    refine wpd_p 7 rfl zz7 ⟨_, rfl, rfl⟩ (q_shlN (a := 1) rfl rfl zz24 zz1) rfl sk0 ?_
    refine wpd_p 8 rfl zz7 ⟨_, rfl, rfl⟩ (q_pure rfl) rfl sk0 ?_
    refine wpd_p 9 rfl zz7 trivial (q_pure rfl) rfl sk0 ?_
    refine wpd_p 10 rfl zz7 trivial (q_pure rfl) rfl sk0 ?_
    refine wpd_bool2 18 16 rfl rfl (fun hb18 => ?_) (fun hb18 => ?_)
    ·
     try simp only [decide_eq_true_eq, decide_eq_false_iff_not, Bool.and_eq_true, Bool.or_eq_true, beq_iff_eq, bne_iff_ne, ne_eq, Bool.not_eq_true', Bool.not_eq_false', Decidable.not_not] at hb18
     refine wpd_off 11 rfl zz7 ⟨_, _, rfl, rfl, rfl⟩ rfl sk0 ?_
     refine wpd_off 12 rfl zz7 ⟨_, _, rfl, rfl, rfl⟩ rfl sk0 ?_
     refine wpd_off 13 rfl zz7 ⟨_, _, rfl, rfl, rfl⟩ rfl sk0 ?_
     refine wpd_off 14 rfl zz7 ⟨_, _, rfl, rfl, rfl⟩ rfl sk0 ?_
     refine wpd_p 15 rfl zz7 trivial (q_pure rfl) rfl sk0 ?_
     refine wpd_p 16 rfl zz7 trivial (q_pure rfl) rfl sk0 ?_
     refine wpd_off 17 rfl zz7 ⟨_, _, rfl, rfl, rfl⟩ rfl sk0 ?_
     refine wpd_off 18 rfl zz7 ⟨_, _, rfl, rfl, rfl⟩ rfl sk0 ?_
     refine wpd_off 19 rfl zz7 ⟨_, _, rfl, rfl, rfl⟩ rfl sk0 ?_
     refine wpd_off 20 rfl zz7 ⟨_, _, rfl, rfl, rfl⟩ rfl sk0 ?_
     refine wpd_off 21 rfl zz7 ⟨_, _, rfl, rfl, rfl⟩ rfl sk0 ?_
     refine wpd_p 22 rfl zz7 trivial (q_pure rfl) rfl sk0 ?_
     refine wpd_done zz7 ?_
     refine ex_then ?_
     refine wpc_cond_t rfl ?_
     refine wpc_seq <| wpc_region <| wpl_q (q_pure rfl) rfl <| wpl_nil <| ex_then <| wpc_ret ?_
     refine ex_then_ret ?_
     refine ret1 (.inl rfl) rfl rfl ?_
     exact fun w h => ⟨by rw [check_12 zz12 zz35], h.below⟩
    ·
     try simp only [decide_eq_true_eq, decide_eq_false_iff_not, Bool.and_eq_true, Bool.or_eq_true, beq_iff_eq, bne_iff_ne, ne_eq, Bool.not_eq_true', Bool.not_eq_false', Decidable.not_not] at hb18
     refine wpd_p 11 rfl zz7 ⟨_, rfl, rfl⟩ (q_field Tryd.underlying30 rfl Tryd.ti28 rfl rfl _ rfl) rfl sk0 ?_
     refine wpd_q 12 rfl zz7 ⟨_, rfl, rfl⟩ (q_ld Tryd.underlying28 rfl rfl rfl) rfl (fun _ h => h) ?_
     refine wpd_p 13 rfl zz7 ⟨_, rfl, rfl⟩ (q_lenW Tryd.underlying28 rfl zz3) rfl sk0 ?_
     refine wpd_p 14 rfl zz7 ⟨_, rfl, rfl⟩ (q_pure rfl) rfl sk0 ?_
     refine wpd_p 15 rfl zz7 trivial (q_pure rfl) rfl sk0 ?_
     refine wpd_p 16 rfl zz7 trivial (q_pure rfl) rfl sk0 ?_
     refine wpd_bool2 24 22 rfl rfl (fun hb24 => ?_) (fun hb24 => ?_)
     ·
      try simp only [decide_eq_true_eq, decide_eq_false_iff_not, Bool.and_eq_true, Bool.or_eq_true, beq_iff_eq, bne_iff_ne, ne_eq, Bool.not_eq_true', Bool.not_eq_false', Decidable.not_not] at hb24
      refine wpd_off 17 rfl zz7 ⟨_, _, rfl, rfl, rfl⟩ rfl sk0 ?_
      refine wpd_off 18 rfl zz7 ⟨_, _, rfl, rfl, rfl⟩ rfl sk0 ?_
      refine wpd_off 19 rfl zz7 ⟨_, _, rfl, rfl, rfl⟩ rfl sk0 ?_
      refine wpd_off 20 rfl zz7 ⟨_, _, rfl, rfl, rfl⟩ rfl sk0 ?_
      refine wpd_off 21 rfl zz7 ⟨_, _, rfl, rfl, rfl⟩ rfl sk0 ?_
      refine wpd_p 22 rfl zz7 trivial (q_pure rfl) rfl sk0 ?_
      refine wpd_done zz7 ?_
      refine ex_then ?_
      refine wpc_cond_t rfl ?_
      refine wpc_seq <| wpc_region <| wpl_q (q_pure rfl) rfl <| wpl_nil <| ex_then <| wpc_ret ?_
      refine ex_then_ret ?_
      refine ret1 (.inl rfl) rfl rfl ?_
      exact fun w h => ⟨by rw [check_12 zz12 zz35], h.below⟩
     ·
      try simp only [decide_eq_true_eq, decide_eq_false_iff_not, Bool.and_eq_true, Bool.or_eq_true, beq_iff_eq, bne_iff_ne, ne_eq, Bool.not_eq_true', Bool.not_eq_false', Decidable.not_not] at hb24
      refine wpd_p 17 rfl zz7 ⟨_, rfl, rfl⟩ (q_field Tryd.underlying30 rfl Tryd.ti28 rfl rfl _ rfl) rfl sk0 ?_
      refine wpd_q 18 rfl zz7 ⟨_, rfl, rfl⟩ (q_ld Tryd.underlying28 rfl rfl rfl) rfl (fun _ h => h) ?_
      refine wpd_p 19 rfl zz7 ⟨_, rfl, rfl⟩ (q_lenW Tryd.underlying28 rfl zz3) rfl sk0 ?_
      refine wpd_p 20 rfl zz7 ⟨_, rfl, rfl⟩ (q_pure rfl) rfl sk0 ?_
      refine wpd_p 21 rfl zz7 ⟨_, rfl, rfl⟩ (q_pure rfl) rfl sk0 ?_
      refine wpd_p 22 rfl zz7 trivial (q_pure rfl) rfl sk0 ?_
      refine wpd_done zz7 ?_
      refine ex_then ?_
      refine wpc_cond rfl (fun hc30 => ?_) (fun hc30 => ?_)
      ·
       try simp only [decide_eq_true_eq, decide_eq_false_iff_not, Bool.and_eq_true, Bool.or_eq_true, beq_iff_eq, bne_iff_ne, ne_eq, Bool.not_eq_true', Bool.not_eq_false', Decidable.not_not] at hc30
       refine wpc_seq <| wpc_region <| wpl_q (q_pure rfl) rfl <| wpl_nil <| ex_then <| wpc_ret ?_
       refine ex_then_ret ?_
       refine ret1 (.inl rfl) rfl rfl ?_
       exact fun w h => ⟨by rw [check_12 zz12 zz35], h.below⟩
      ·
       simp only [bne_eq_false_iff_eq, decide_eq_false_iff_not, ne_eq, Decidable.not_not] at hc30 hb24
       refine wpc_skip <| ex_then <| wpc_seq <| wpc_region <| wpl_q (q_pure rfl) rfl <| wpl_nil <| ex_then <| wpc_ret ?_
       refine ret1 (.inl rfl) rfl rfl ?_
       exact fun w h => ⟨by rw [check_0 zz12 zz12], h.below⟩
theorem isTime (t : Int) (w : World)   :
    Calls Tryd.prog 55 [.int .i64 t].toArray w (Pur w (.bool (timeF t))) := by
  refine enter (m := 9) (R := Mem w [] [] []) Tryd.func55 rfl rfl (Nat.le_of_ble_eq_true rfl) (Mem.start w) ?_
  refine wpc_seq <| wpc_region <| wpl_q (q_pure rfl) rfl <| wpl_nil <| ex_then <| wpc_seq <| wpc_region <| wpl_q (q_pure rfl) rfl <| wpl_q (q_pure rfl) rfl <| wpl_q (q_pure rfl) rfl ?_
  refine wpl_bool2 5 4 rfl rfl (fun hb5 => ?_) (fun hb5 => ?_)
  ·
   try simp only [decide_eq_true_eq, decide_eq_false_iff_not, Bool.and_eq_true, Bool.or_eq_true, beq_iff_eq, bne_iff_ne, ne_eq, Bool.not_eq_true', Bool.not_eq_false', Decidable.not_not] at hb5
   refine wpl_on rfl rfl <| wpl_q (q_pure rfl) rfl <| wpl_on rfl rfl <| wpl_q (q_pure rfl) rfl <| wpl_q (q_pure rfl) rfl <| wpl_q (q_pure rfl) rfl <| wpl_nil <| ex_then <| wpc_ret ?_
   refine ret1 (.inl rfl) rfl rfl ?_
   exact fun w h => ⟨congrArg (fun b => Ending.returned (Value.bool b)) zz44, h.below⟩
  ·
   try simp only [decide_eq_true_eq, decide_eq_false_iff_not, Bool.and_eq_true, Bool.or_eq_true, beq_iff_eq, bne_iff_ne, ne_eq, Bool.not_eq_true', Bool.not_eq_false', Decidable.not_not] at hb5
   refine wpl_off rfl rfl rfl rfl <| wpl_off rfl rfl rfl rfl <| wpl_q (q_pure rfl) rfl <| wpl_q (q_pure rfl) rfl <| wpl_nil <| ex_then <| wpc_ret ?_
   refine ret1 (.inl rfl) rfl rfl ?_
   exact fun w h => ⟨congrArg (fun b => Ending.returned (Value.bool b)) zz44, h.below⟩
theorem clockCheck (fr tt : Int) (w : World)   :
    Calls Tryd.prog 30 [.agg #[.int .i64 fr, .int .i64 tt]].toArray w (Pur w (.int .i64 (if winF fr tt then 0 else 8))) := by
  refine enter (m := 20) (R := Mem w [] [] []) Tryd.func30 rfl rfl (Nat.le_of_ble_eq_true rfl) (Mem.start w) ?_
  refine wpc_seq <| wpc_region ?_
  refine wpl_t (t_box rfl [.int .i64 fr, .int .i64 tt] rfl) rfl (fun b1 => ?_)
  refine wpl_q (q_pure rfl) rfl <| wpl_nil <| ex_then <| wpc_seq <| wpc_seq <| wpc_region <| wpl_q (q_field Tryd.underlying27 rfl Tryd.ti2 rfl rfl _ rfl) rfl ?_
  refine wpl_q (q_ld Tryd.underlying2 rfl rfl zz23) rfl ?_
  refine wpl_t (t_pur Tryd.hb55 rfl fun w h => isTime _ w) rfl (fun b5 => ?_)
  refine wpl_q (q_pure rfl) rfl <| wpl_q (q_pure rfl) rfl ?_
  refine wpl_bool2 7 6 rfl rfl (fun hb7 => ?_) (fun hb7 => ?_)
  ·
   try simp only [decide_eq_true_eq, decide_eq_false_iff_not, Bool.and_eq_true, Bool.or_eq_true, beq_iff_eq, bne_iff_ne, ne_eq, Bool.not_eq_true', Bool.not_eq_false', Decidable.not_not] at hb7
   refine wpl_off rfl rfl rfl rfl <| wpl_off rfl rfl rfl rfl <| wpl_off rfl rfl rfl rfl <| wpl_off rfl rfl rfl rfl <| wpl_q (q_pure rfl) rfl <| wpl_q (q_pure rfl) rfl <| wpl_off rfl rfl rfl rfl <| wpl_off rfl rfl rfl rfl <| wpl_off rfl rfl rfl rfl <| wpl_off rfl rfl rfl rfl <| wpl_off rfl rfl rfl rfl <| wpl_q (q_pure rfl) rfl ?_
   refine wpl_nil <| ex_then ?_
   refine wpc_cond_t rfl ?_
   refine wpc_seq <| wpc_region <| wpl_q (q_pure rfl) rfl <| wpl_nil <| ex_then <| wpc_ret ?_
   refine ex_then_ret ?_
   refine ret1 (.inl rfl) rfl rfl ?_
   exact fun w h => ⟨zz48, h.below⟩
  ·
   try simp only [decide_eq_true_eq, decide_eq_false_iff_not, Bool.and_eq_true, Bool.or_eq_true, beq_iff_eq, bne_iff_ne, ne_eq, Bool.not_eq_true', Bool.not_eq_false', Decidable.not_not] at hb7
   refine wpl_on rfl rfl <| wpl_q (q_field Tryd.underlying27 rfl Tryd.ti2 rfl rfl _ rfl) rfl <| wpl_on rfl rfl ?_
   refine wpl_q (q_ld Tryd.underlying2 rfl rfl zz23) rfl ?_
   refine wpl_on rfl rfl ?_
   refine wpl_t (t_pur Tryd.hb55 rfl fun w h => isTime _ w) rfl (fun b10 => ?_)
   refine wpl_on rfl rfl <| wpl_q (q_pure rfl) rfl <| wpl_q (q_pure rfl) rfl <| wpl_q (q_pure rfl) rfl ?_
   refine wpl_bool2 13 11 rfl rfl (fun hb13 => ?_) (fun hb13 => ?_)
   ·
    try simp only [decide_eq_true_eq, decide_eq_false_iff_not, Bool.and_eq_true, Bool.or_eq_true, beq_iff_eq, bne_iff_ne, ne_eq, Bool.not_eq_true', Bool.not_eq_false', Decidable.not_not] at hb13
    refine wpl_off rfl rfl rfl rfl <| wpl_off rfl rfl rfl rfl <| wpl_off rfl rfl rfl rfl <| wpl_off rfl rfl rfl rfl <| wpl_off rfl rfl rfl rfl <| wpl_q (q_pure rfl) rfl <| wpl_nil <| ex_then ?_
    refine wpc_cond_t rfl ?_
    refine wpc_seq <| wpc_region <| wpl_q (q_pure rfl) rfl <| wpl_nil <| ex_then <| wpc_ret ?_
    refine ex_then_ret ?_
    refine ret1 (.inl rfl) rfl rfl ?_
    exact fun w h => ⟨zz48, h.below⟩
   ·
    try simp only [decide_eq_true_eq, decide_eq_false_iff_not, Bool.and_eq_true, Bool.or_eq_true, beq_iff_eq, bne_iff_ne, ne_eq, Bool.not_eq_true', Bool.not_eq_false', Decidable.not_not] at hb13
    refine wpl_on rfl rfl <| wpl_q (q_field Tryd.underlying27 rfl Tryd.ti2 rfl rfl _ rfl) rfl <| wpl_on rfl rfl ?_
    refine wpl_q (q_ld Tryd.underlying2 rfl rfl zz23) rfl ?_
    refine wpl_on rfl rfl <| wpl_q (q_field Tryd.underlying27 rfl Tryd.ti2 rfl rfl _ rfl) rfl <| wpl_on rfl rfl ?_
    refine wpl_q (q_ld Tryd.underlying2 rfl rfl zz23) rfl ?_
    refine wpl_on rfl rfl <| wpl_q (q_pure rfl) rfl <| wpl_q (q_pure rfl) rfl <| wpl_nil <| ex_then ?_
    refine wpc_cond rfl (fun hc19 => ?_) (fun hc19 => ?_)
    ·
     try simp only [decide_eq_true_eq, decide_eq_false_iff_not, Bool.and_eq_true, Bool.or_eq_true, beq_iff_eq, bne_iff_ne, ne_eq, Bool.not_eq_true', Bool.not_eq_false', Decidable.not_not] at hc19
     refine wpc_seq <| wpc_region <| wpl_q (q_pure rfl) rfl <| wpl_nil <| ex_then <| wpc_ret ?_
     refine ex_then_ret ?_
     refine ret1 (.inl rfl) rfl rfl ?_
     exact fun w h => ⟨zz48, h.below⟩
    ·
     try simp only [decide_eq_true_eq, decide_eq_false_iff_not, Bool.and_eq_true, Bool.or_eq_true, beq_iff_eq, bne_iff_ne, ne_eq, Bool.not_eq_true', Bool.not_eq_false', Decidable.not_not] at hc19
     refine wpc_skip <| ex_then <| wpc_seq <| wpc_region <| wpl_q (q_pure rfl) rfl <| wpl_nil <| ex_then <| wpc_ret ?_
     refine ret1 (.inl rfl) rfl rfl ?_
     exact fun w h => ⟨by rw [show (if winF fr tt then (0 : Int) else 8) = 0 by first | rfl | (rw [show winF fr tt = true from zz33]; rfl)], h.below⟩
theorem good1 (c : UInt8) (w : World)   :
    Calls Tryd.prog 54 [.int .u8 c.toNat].toArray w (Pur w (.bool (goodB c))) := by
  refine enter (m := 33) (R := Mem w [] [] []) Tryd.func54 rfl rfl (Nat.le_of_ble_eq_true rfl) (Mem.start w) ?_
  refine wpc_seq <| wpc_region <| wpl_q (q_pure rfl) rfl <| wpl_nil <| ex_then <| wpc_seq <| wpc_region <| wpl_q (q_pure rfl) rfl <| wpl_q (q_pure rfl) rfl <| wpl_q (q_pure rfl) rfl ?_
  refine wpl_bool2 5 4 rfl rfl (fun hb5 => ?_) (fun hb5 => ?_)
  ·
   try simp only [decide_eq_true_eq, decide_eq_false_iff_not, Bool.and_eq_true, Bool.or_eq_true, beq_iff_eq, bne_iff_ne, ne_eq, Bool.not_eq_true', Bool.not_eq_false', Decidable.not_not] at hb5
   refine wpl_on rfl rfl <| wpl_q (q_pure rfl) rfl <| wpl_on rfl rfl <| wpl_q (q_pure rfl) rfl <| wpl_q (q_pure rfl) rfl <| wpl_q (q_pure rfl) rfl ?_
   refine wpl_bool2 9 7 rfl rfl (fun hb9 => ?_) (fun hb9 => ?_)
   ·
    try simp only [decide_eq_true_eq, decide_eq_false_iff_not, Bool.and_eq_true, Bool.or_eq_true, beq_iff_eq, bne_iff_ne, ne_eq, Bool.not_eq_true', Bool.not_eq_false', Decidable.not_not] at hb9
    refine wpl_off rfl rfl rfl rfl <| wpl_off rfl rfl rfl rfl <| wpl_off rfl rfl rfl rfl <| wpl_off rfl rfl rfl rfl <| wpl_off rfl rfl rfl rfl <| wpl_off rfl rfl rfl rfl <| wpl_q (q_pure rfl) rfl <| wpl_q (q_pure rfl) rfl <| wpl_off rfl rfl rfl rfl <| wpl_off rfl rfl rfl rfl <| wpl_off rfl rfl rfl rfl <| wpl_off rfl rfl rfl rfl ?_
    refine wpl_off rfl rfl rfl rfl <| wpl_off rfl rfl rfl rfl <| wpl_q (q_pure rfl) rfl <| wpl_q (q_pure rfl) rfl <| wpl_off rfl rfl rfl rfl <| wpl_off rfl rfl rfl rfl <| wpl_q (q_pure rfl) rfl <| wpl_q (q_pure rfl) rfl <| wpl_off rfl rfl rfl rfl <| wpl_off rfl rfl rfl rfl <| wpl_q (q_pure rfl) rfl <| wpl_q (q_pure rfl) rfl ?_
    refine wpl_nil <| ex_then <| wpc_ret ?_
    refine ret1 (.inl rfl) rfl rfl ?_
    exact fun w h => ⟨congrArg (fun b => Ending.returned (Value.bool b)) zz10, h.below⟩
   ·
    try simp only [decide_eq_true_eq, decide_eq_false_iff_not, Bool.and_eq_true, Bool.or_eq_true, beq_iff_eq, bne_iff_ne, ne_eq, Bool.not_eq_true', Bool.not_eq_false', Decidable.not_not] at hb9
    refine wpl_on rfl rfl <| wpl_q (q_pure rfl) rfl <| wpl_on rfl rfl <| wpl_q (q_pure rfl) rfl <| wpl_on rfl rfl <| wpl_q (q_pure rfl) rfl ?_
    refine wpl_bool2 12 11 rfl rfl (fun hb12 => ?_) (fun hb12 => ?_)
    ·
     try simp only [decide_eq_true_eq, decide_eq_false_iff_not, Bool.and_eq_true, Bool.or_eq_true, beq_iff_eq, bne_iff_ne, ne_eq, Bool.not_eq_true', Bool.not_eq_false', Decidable.not_not] at hb12
     refine wpl_on rfl rfl <| wpl_q (q_pure rfl) rfl <| wpl_on rfl rfl <| wpl_q (q_pure rfl) rfl <| wpl_on rfl rfl <| wpl_q (q_pure rfl) rfl <| wpl_q (q_pure rfl) rfl <| wpl_q (q_pure rfl) rfl ?_
     refine wpl_bool2 17 14 rfl rfl (fun hb17 => ?_) (fun hb17 => ?_)
     ·
      try simp only [decide_eq_true_eq, decide_eq_false_iff_not, Bool.and_eq_true, Bool.or_eq_true, beq_iff_eq, bne_iff_ne, ne_eq, Bool.not_eq_true', Bool.not_eq_false', Decidable.not_not] at hb17
      refine wpl_off rfl rfl rfl rfl <| wpl_off rfl rfl rfl rfl <| wpl_off rfl rfl rfl rfl <| wpl_off rfl rfl rfl rfl <| wpl_off rfl rfl rfl rfl <| wpl_off rfl rfl rfl rfl <| wpl_q (q_pure rfl) rfl <| wpl_q (q_pure rfl) rfl <| wpl_off rfl rfl rfl rfl <| wpl_off rfl rfl rfl rfl <| wpl_q (q_pure rfl) rfl <| wpl_q (q_pure rfl) rfl ?_
      refine wpl_off rfl rfl rfl rfl <| wpl_off rfl rfl rfl rfl <| wpl_q (q_pure rfl) rfl <| wpl_q (q_pure rfl) rfl <| wpl_nil <| ex_then <| wpc_ret ?_
      refine ret1 (.inl rfl) rfl rfl ?_
      exact fun w h => ⟨congrArg (fun b => Ending.returned (Value.bool b)) zz10, h.below⟩
     ·
      try simp only [decide_eq_true_eq, decide_eq_false_iff_not, Bool.and_eq_true, Bool.or_eq_true, beq_iff_eq, bne_iff_ne, ne_eq, Bool.not_eq_true', Bool.not_eq_false', Decidable.not_not] at hb17
      refine wpl_on rfl rfl <| wpl_q (q_pure rfl) rfl <| wpl_on rfl rfl <| wpl_q (q_pure rfl) rfl <| wpl_on rfl rfl <| wpl_q (q_pure rfl) rfl ?_
      refine wpl_bool2 20 19 rfl rfl (fun hb20 => ?_) (fun hb20 => ?_)
      ·
       try simp only [decide_eq_true_eq, decide_eq_false_iff_not, Bool.and_eq_true, Bool.or_eq_true, beq_iff_eq, bne_iff_ne, ne_eq, Bool.not_eq_true', Bool.not_eq_false', Decidable.not_not] at hb20
       refine wpl_on rfl rfl <| wpl_q (q_pure rfl) rfl <| wpl_on rfl rfl <| wpl_q (q_pure rfl) rfl <| wpl_on rfl rfl <| wpl_q (q_pure rfl) rfl <| wpl_q (q_pure rfl) rfl <| wpl_q (q_pure rfl) rfl ?_
       refine wpl_bool2 25 22 rfl rfl (fun hb25 => ?_) (fun hb25 => ?_)
       ·
        try simp only [decide_eq_true_eq, decide_eq_false_iff_not, Bool.and_eq_true, Bool.or_eq_true, beq_iff_eq, bne_iff_ne, ne_eq, Bool.not_eq_true', Bool.not_eq_false', Decidable.not_not] at hb25
        refine wpl_off rfl rfl rfl rfl <| wpl_off rfl rfl rfl rfl <| wpl_q (q_pure rfl) rfl <| wpl_q (q_pure rfl) rfl <| wpl_off rfl rfl rfl rfl <| wpl_off rfl rfl rfl rfl <| wpl_q (q_pure rfl) rfl <| wpl_q (q_pure rfl) rfl <| wpl_nil <| ex_then <| wpc_ret ?_
        refine ret1 (.inl rfl) rfl rfl ?_
        exact fun w h => ⟨congrArg (fun b => Ending.returned (Value.bool b)) zz10, h.below⟩
       ·
        try simp only [decide_eq_true_eq, decide_eq_false_iff_not, Bool.and_eq_true, Bool.or_eq_true, beq_iff_eq, bne_iff_ne, ne_eq, Bool.not_eq_true', Bool.not_eq_false', Decidable.not_not] at hb25
        refine wpl_on rfl rfl <| wpl_q (q_pure rfl) rfl <| wpl_on rfl rfl ?_
        refine wpl_q (q8_eql (b := (45 : UInt8)) rfl rfl) rfl ?_
        refine wpl_q (q_pure rfl) rfl <| wpl_q (q_pure rfl) rfl ?_
        refine wpl_bool2 29 27 rfl rfl (fun hb29 => ?_) (fun hb29 => ?_)
        ·
         try simp only [decide_eq_true_eq, decide_eq_false_iff_not, Bool.and_eq_true, Bool.or_eq_true, beq_iff_eq, bne_iff_ne, ne_eq, Bool.not_eq_true', Bool.not_eq_false', Decidable.not_not] at hb29
         refine wpl_off rfl rfl rfl rfl <| wpl_off rfl rfl rfl rfl <| wpl_q (q_pure rfl) rfl <| wpl_q (q_pure rfl) rfl <| wpl_nil <| ex_then <| wpc_ret ?_
         refine ret1 (.inl rfl) rfl rfl ?_
         exact fun w h => ⟨congrArg (fun b => Ending.returned (Value.bool b)) zz10, h.below⟩
        ·
         try simp only [decide_eq_true_eq, decide_eq_false_iff_not, Bool.and_eq_true, Bool.or_eq_true, beq_iff_eq, bne_iff_ne, ne_eq, Bool.not_eq_true', Bool.not_eq_false', Decidable.not_not] at hb29
         refine wpl_on rfl rfl <| wpl_q (q_pure rfl) rfl <| wpl_on rfl rfl ?_
         refine wpl_q (q8_eql (b := (95 : UInt8)) rfl rfl) rfl ?_
         refine wpl_q (q_pure rfl) rfl <| wpl_q (q_pure rfl) rfl <| wpl_nil <| ex_then <| wpc_ret ?_
         refine ret1 (.inl rfl) rfl rfl ?_
         exact fun w h => ⟨congrArg (fun b => Ending.returned (Value.bool b)) zz10, h.below⟩
      ·
       try simp only [decide_eq_true_eq, decide_eq_false_iff_not, Bool.and_eq_true, Bool.or_eq_true, beq_iff_eq, bne_iff_ne, ne_eq, Bool.not_eq_true', Bool.not_eq_false', Decidable.not_not] at hb20
       refine wpl_off rfl rfl rfl rfl <| wpl_off rfl rfl rfl rfl <| wpl_on rfl rfl <| wpl_q (q_pure rfl) rfl <| wpl_q (q_pure rfl) rfl <| wpl_q (q_pure rfl) rfl <| wpl_on rfl rfl <| wpl_q (q_pure rfl) rfl <| wpl_on rfl rfl ?_
       refine wpl_q (q8_eql (b := (45 : UInt8)) rfl rfl) rfl ?_
       refine wpl_q (q_pure rfl) rfl <| wpl_q (q_pure rfl) rfl ?_
       refine wpl_bool2 29 27 rfl rfl (fun hb29 => ?_) (fun hb29 => ?_)
       ·
        try simp only [decide_eq_true_eq, decide_eq_false_iff_not, Bool.and_eq_true, Bool.or_eq_true, beq_iff_eq, bne_iff_ne, ne_eq, Bool.not_eq_true', Bool.not_eq_false', Decidable.not_not] at hb29
        refine wpl_off rfl rfl rfl rfl <| wpl_off rfl rfl rfl rfl <| wpl_q (q_pure rfl) rfl <| wpl_q (q_pure rfl) rfl <| wpl_nil <| ex_then <| wpc_ret ?_
        refine ret1 (.inl rfl) rfl rfl ?_
        exact fun w h => ⟨congrArg (fun b => Ending.returned (Value.bool b)) zz10, h.below⟩
       ·
        try simp only [decide_eq_true_eq, decide_eq_false_iff_not, Bool.and_eq_true, Bool.or_eq_true, beq_iff_eq, bne_iff_ne, ne_eq, Bool.not_eq_true', Bool.not_eq_false', Decidable.not_not] at hb29
        refine wpl_on rfl rfl <| wpl_q (q_pure rfl) rfl <| wpl_on rfl rfl ?_
        refine wpl_q (q8_eql (b := (95 : UInt8)) rfl rfl) rfl ?_
        refine wpl_q (q_pure rfl) rfl <| wpl_q (q_pure rfl) rfl <| wpl_nil <| ex_then <| wpc_ret ?_
        refine ret1 (.inl rfl) rfl rfl ?_
        exact fun w h => ⟨congrArg (fun b => Ending.returned (Value.bool b)) zz10, h.below⟩
    ·
     try simp only [decide_eq_true_eq, decide_eq_false_iff_not, Bool.and_eq_true, Bool.or_eq_true, beq_iff_eq, bne_iff_ne, ne_eq, Bool.not_eq_true', Bool.not_eq_false', Decidable.not_not] at hb12
     refine wpl_off rfl rfl rfl rfl <| wpl_off rfl rfl rfl rfl <| wpl_on rfl rfl <| wpl_q (q_pure rfl) rfl <| wpl_q (q_pure rfl) rfl <| wpl_q (q_pure rfl) rfl <| wpl_on rfl rfl <| wpl_q (q_pure rfl) rfl <| wpl_on rfl rfl <| wpl_q (q_pure rfl) rfl <| wpl_on rfl rfl <| wpl_q (q_pure rfl) rfl ?_
     refine wpl_bool2 20 19 rfl rfl (fun hb20 => ?_) (fun hb20 => ?_)
     ·
      try simp only [decide_eq_true_eq, decide_eq_false_iff_not, Bool.and_eq_true, Bool.or_eq_true, beq_iff_eq, bne_iff_ne, ne_eq, Bool.not_eq_true', Bool.not_eq_false', Decidable.not_not] at hb20
      refine wpl_on rfl rfl <| wpl_q (q_pure rfl) rfl <| wpl_on rfl rfl <| wpl_q (q_pure rfl) rfl <| wpl_on rfl rfl <| wpl_q (q_pure rfl) rfl <| wpl_q (q_pure rfl) rfl <| wpl_q (q_pure rfl) rfl ?_
      refine wpl_bool2 25 22 rfl rfl (fun hb25 => ?_) (fun hb25 => ?_)
      ·
       try simp only [decide_eq_true_eq, decide_eq_false_iff_not, Bool.and_eq_true, Bool.or_eq_true, beq_iff_eq, bne_iff_ne, ne_eq, Bool.not_eq_true', Bool.not_eq_false', Decidable.not_not] at hb25
       refine wpl_off rfl rfl rfl rfl <| wpl_off rfl rfl rfl rfl <| wpl_q (q_pure rfl) rfl <| wpl_q (q_pure rfl) rfl <| wpl_off rfl rfl rfl rfl <| wpl_off rfl rfl rfl rfl <| wpl_q (q_pure rfl) rfl <| wpl_q (q_pure rfl) rfl <| wpl_nil <| ex_then <| wpc_ret ?_
       refine ret1 (.inl rfl) rfl rfl ?_
       exact fun w h => ⟨congrArg (fun b => Ending.returned (Value.bool b)) zz10, h.below⟩
      ·
       try simp only [decide_eq_true_eq, decide_eq_false_iff_not, Bool.and_eq_true, Bool.or_eq_true, beq_iff_eq, bne_iff_ne, ne_eq, Bool.not_eq_true', Bool.not_eq_false', Decidable.not_not] at hb25
       refine wpl_on rfl rfl <| wpl_q (q_pure rfl) rfl <| wpl_on rfl rfl ?_
       refine wpl_q (q8_eql (b := (45 : UInt8)) rfl rfl) rfl ?_
       refine wpl_q (q_pure rfl) rfl <| wpl_q (q_pure rfl) rfl ?_
       refine wpl_bool2 29 27 rfl rfl (fun hb29 => ?_) (fun hb29 => ?_)
       ·
        try simp only [decide_eq_true_eq, decide_eq_false_iff_not, Bool.and_eq_true, Bool.or_eq_true, beq_iff_eq, bne_iff_ne, ne_eq, Bool.not_eq_true', Bool.not_eq_false', Decidable.not_not] at hb29
        refine wpl_off rfl rfl rfl rfl <| wpl_off rfl rfl rfl rfl <| wpl_q (q_pure rfl) rfl <| wpl_q (q_pure rfl) rfl <| wpl_nil <| ex_then <| wpc_ret ?_
        refine ret1 (.inl rfl) rfl rfl ?_
        exact fun w h => ⟨congrArg (fun b => Ending.returned (Value.bool b)) zz10, h.below⟩
       ·
        try simp only [decide_eq_true_eq, decide_eq_false_iff_not, Bool.and_eq_true, Bool.or_eq_true, beq_iff_eq, bne_iff_ne, ne_eq, Bool.not_eq_true', Bool.not_eq_false', Decidable.not_not] at hb29
        refine wpl_on rfl rfl <| wpl_q (q_pure rfl) rfl <| wpl_on rfl rfl ?_
        refine wpl_q (q8_eql (b := (95 : UInt8)) rfl rfl) rfl ?_
        refine wpl_q (q_pure rfl) rfl <| wpl_q (q_pure rfl) rfl <| wpl_nil <| ex_then <| wpc_ret ?_
        refine ret1 (.inl rfl) rfl rfl ?_
        exact fun w h => ⟨congrArg (fun b => Ending.returned (Value.bool b)) zz10, h.below⟩
     ·
      try simp only [decide_eq_true_eq, decide_eq_false_iff_not, Bool.and_eq_true, Bool.or_eq_true, beq_iff_eq, bne_iff_ne, ne_eq, Bool.not_eq_true', Bool.not_eq_false', Decidable.not_not] at hb20
      refine wpl_off rfl rfl rfl rfl <| wpl_off rfl rfl rfl rfl <| wpl_on rfl rfl <| wpl_q (q_pure rfl) rfl <| wpl_q (q_pure rfl) rfl <| wpl_q (q_pure rfl) rfl <| wpl_on rfl rfl <| wpl_q (q_pure rfl) rfl <| wpl_on rfl rfl ?_
      refine wpl_q (q8_eql (b := (45 : UInt8)) rfl rfl) rfl ?_
      refine wpl_q (q_pure rfl) rfl <| wpl_q (q_pure rfl) rfl ?_
      refine wpl_bool2 29 27 rfl rfl (fun hb29 => ?_) (fun hb29 => ?_)
      ·
       try simp only [decide_eq_true_eq, decide_eq_false_iff_not, Bool.and_eq_true, Bool.or_eq_true, beq_iff_eq, bne_iff_ne, ne_eq, Bool.not_eq_true', Bool.not_eq_false', Decidable.not_not] at hb29
       refine wpl_off rfl rfl rfl rfl <| wpl_off rfl rfl rfl rfl <| wpl_q (q_pure rfl) rfl <| wpl_q (q_pure rfl) rfl <| wpl_nil <| ex_then <| wpc_ret ?_
       refine ret1 (.inl rfl) rfl rfl ?_
       exact fun w h => ⟨congrArg (fun b => Ending.returned (Value.bool b)) zz10, h.below⟩
      ·
       try simp only [decide_eq_true_eq, decide_eq_false_iff_not, Bool.and_eq_true, Bool.or_eq_true, beq_iff_eq, bne_iff_ne, ne_eq, Bool.not_eq_true', Bool.not_eq_false', Decidable.not_not] at hb29
       refine wpl_on rfl rfl <| wpl_q (q_pure rfl) rfl <| wpl_on rfl rfl ?_
       refine wpl_q (q8_eql (b := (95 : UInt8)) rfl rfl) rfl ?_
       refine wpl_q (q_pure rfl) rfl <| wpl_q (q_pure rfl) rfl <| wpl_nil <| ex_then <| wpc_ret ?_
       refine ret1 (.inl rfl) rfl rfl ?_
       exact fun w h => ⟨congrArg (fun b => Ending.returned (Value.bool b)) zz10, h.below⟩
  ·
   try simp only [decide_eq_true_eq, decide_eq_false_iff_not, Bool.and_eq_true, Bool.or_eq_true, beq_iff_eq, bne_iff_ne, ne_eq, Bool.not_eq_true', Bool.not_eq_false', Decidable.not_not] at hb5
   refine wpl_off rfl rfl rfl rfl <| wpl_off rfl rfl rfl rfl <| wpl_q (q_pure rfl) rfl <| wpl_q (q_pure rfl) rfl <| wpl_on rfl rfl <| wpl_q (q_pure rfl) rfl <| wpl_on rfl rfl <| wpl_q (q_pure rfl) rfl <| wpl_on rfl rfl <| wpl_q (q_pure rfl) rfl ?_
   refine wpl_bool2 12 11 rfl rfl (fun hb12 => ?_) (fun hb12 => ?_)
   ·
    try simp only [decide_eq_true_eq, decide_eq_false_iff_not, Bool.and_eq_true, Bool.or_eq_true, beq_iff_eq, bne_iff_ne, ne_eq, Bool.not_eq_true', Bool.not_eq_false', Decidable.not_not] at hb12
    refine wpl_on rfl rfl <| wpl_q (q_pure rfl) rfl <| wpl_on rfl rfl <| wpl_q (q_pure rfl) rfl <| wpl_on rfl rfl <| wpl_q (q_pure rfl) rfl <| wpl_q (q_pure rfl) rfl <| wpl_q (q_pure rfl) rfl ?_
    refine wpl_bool2 17 14 rfl rfl (fun hb17 => ?_) (fun hb17 => ?_)
    ·
     try simp only [decide_eq_true_eq, decide_eq_false_iff_not, Bool.and_eq_true, Bool.or_eq_true, beq_iff_eq, bne_iff_ne, ne_eq, Bool.not_eq_true', Bool.not_eq_false', Decidable.not_not] at hb17
     refine wpl_off rfl rfl rfl rfl <| wpl_off rfl rfl rfl rfl <| wpl_off rfl rfl rfl rfl <| wpl_off rfl rfl rfl rfl <| wpl_off rfl rfl rfl rfl <| wpl_off rfl rfl rfl rfl <| wpl_q (q_pure rfl) rfl <| wpl_q (q_pure rfl) rfl <| wpl_off rfl rfl rfl rfl <| wpl_off rfl rfl rfl rfl <| wpl_q (q_pure rfl) rfl <| wpl_q (q_pure rfl) rfl ?_
     refine wpl_off rfl rfl rfl rfl <| wpl_off rfl rfl rfl rfl <| wpl_q (q_pure rfl) rfl <| wpl_q (q_pure rfl) rfl <| wpl_nil <| ex_then <| wpc_ret ?_
     refine ret1 (.inl rfl) rfl rfl ?_
     exact fun w h => ⟨congrArg (fun b => Ending.returned (Value.bool b)) zz10, h.below⟩
    ·
     try simp only [decide_eq_true_eq, decide_eq_false_iff_not, Bool.and_eq_true, Bool.or_eq_true, beq_iff_eq, bne_iff_ne, ne_eq, Bool.not_eq_true', Bool.not_eq_false', Decidable.not_not] at hb17
     refine wpl_on rfl rfl <| wpl_q (q_pure rfl) rfl <| wpl_on rfl rfl <| wpl_q (q_pure rfl) rfl <| wpl_on rfl rfl <| wpl_q (q_pure rfl) rfl ?_
     refine wpl_bool2 20 19 rfl rfl (fun hb20 => ?_) (fun hb20 => ?_)
     ·
      try simp only [decide_eq_true_eq, decide_eq_false_iff_not, Bool.and_eq_true, Bool.or_eq_true, beq_iff_eq, bne_iff_ne, ne_eq, Bool.not_eq_true', Bool.not_eq_false', Decidable.not_not] at hb20
      refine wpl_on rfl rfl <| wpl_q (q_pure rfl) rfl <| wpl_on rfl rfl <| wpl_q (q_pure rfl) rfl <| wpl_on rfl rfl <| wpl_q (q_pure rfl) rfl <| wpl_q (q_pure rfl) rfl <| wpl_q (q_pure rfl) rfl ?_
      refine wpl_bool2 25 22 rfl rfl (fun hb25 => ?_) (fun hb25 => ?_)
      ·
       try simp only [decide_eq_true_eq, decide_eq_false_iff_not, Bool.and_eq_true, Bool.or_eq_true, beq_iff_eq, bne_iff_ne, ne_eq, Bool.not_eq_true', Bool.not_eq_false', Decidable.not_not] at hb25
       refine wpl_off rfl rfl rfl rfl <| wpl_off rfl rfl rfl rfl <| wpl_q (q_pure rfl) rfl <| wpl_q (q_pure rfl) rfl <| wpl_off rfl rfl rfl rfl <| wpl_off rfl rfl rfl rfl <| wpl_q (q_pure rfl) rfl <| wpl_q (q_pure rfl) rfl <| wpl_nil <| ex_then <| wpc_ret ?_
       refine ret1 (.inl rfl) rfl rfl ?_
       exact fun w h => ⟨congrArg (fun b => Ending.returned (Value.bool b)) zz10, h.below⟩
      ·
       try simp only [decide_eq_true_eq, decide_eq_false_iff_not, Bool.and_eq_true, Bool.or_eq_true, beq_iff_eq, bne_iff_ne, ne_eq, Bool.not_eq_true', Bool.not_eq_false', Decidable.not_not] at hb25
       refine wpl_on rfl rfl <| wpl_q (q_pure rfl) rfl <| wpl_on rfl rfl ?_
       refine wpl_q (q8_eql (b := (45 : UInt8)) rfl rfl) rfl ?_
       refine wpl_q (q_pure rfl) rfl <| wpl_q (q_pure rfl) rfl ?_
       refine wpl_bool2 29 27 rfl rfl (fun hb29 => ?_) (fun hb29 => ?_)
       ·
        try simp only [decide_eq_true_eq, decide_eq_false_iff_not, Bool.and_eq_true, Bool.or_eq_true, beq_iff_eq, bne_iff_ne, ne_eq, Bool.not_eq_true', Bool.not_eq_false', Decidable.not_not] at hb29
        refine wpl_off rfl rfl rfl rfl <| wpl_off rfl rfl rfl rfl <| wpl_q (q_pure rfl) rfl <| wpl_q (q_pure rfl) rfl <| wpl_nil <| ex_then <| wpc_ret ?_
        refine ret1 (.inl rfl) rfl rfl ?_
        exact fun w h => ⟨congrArg (fun b => Ending.returned (Value.bool b)) zz10, h.below⟩
       ·
        try simp only [decide_eq_true_eq, decide_eq_false_iff_not, Bool.and_eq_true, Bool.or_eq_true, beq_iff_eq, bne_iff_ne, ne_eq, Bool.not_eq_true', Bool.not_eq_false', Decidable.not_not] at hb29
        refine wpl_on rfl rfl <| wpl_q (q_pure rfl) rfl <| wpl_on rfl rfl ?_
        refine wpl_q (q8_eql (b := (95 : UInt8)) rfl rfl) rfl ?_
        refine wpl_q (q_pure rfl) rfl <| wpl_q (q_pure rfl) rfl <| wpl_nil <| ex_then <| wpc_ret ?_
        refine ret1 (.inl rfl) rfl rfl ?_
        exact fun w h => ⟨congrArg (fun b => Ending.returned (Value.bool b)) zz10, h.below⟩
     ·
      try simp only [decide_eq_true_eq, decide_eq_false_iff_not, Bool.and_eq_true, Bool.or_eq_true, beq_iff_eq, bne_iff_ne, ne_eq, Bool.not_eq_true', Bool.not_eq_false', Decidable.not_not] at hb20
      refine wpl_off rfl rfl rfl rfl <| wpl_off rfl rfl rfl rfl <| wpl_on rfl rfl <| wpl_q (q_pure rfl) rfl <| wpl_q (q_pure rfl) rfl <| wpl_q (q_pure rfl) rfl <| wpl_on rfl rfl <| wpl_q (q_pure rfl) rfl <| wpl_on rfl rfl ?_
      refine wpl_q (q8_eql (b := (45 : UInt8)) rfl rfl) rfl ?_
      refine wpl_q (q_pure rfl) rfl <| wpl_q (q_pure rfl) rfl ?_
      refine wpl_bool2 29 27 rfl rfl (fun hb29 => ?_) (fun hb29 => ?_)
      ·
       try simp only [decide_eq_true_eq, decide_eq_false_iff_not, Bool.and_eq_true, Bool.or_eq_true, beq_iff_eq, bne_iff_ne, ne_eq, Bool.not_eq_true', Bool.not_eq_false', Decidable.not_not] at hb29
       refine wpl_off rfl rfl rfl rfl <| wpl_off rfl rfl rfl rfl <| wpl_q (q_pure rfl) rfl <| wpl_q (q_pure rfl) rfl <| wpl_nil <| ex_then <| wpc_ret ?_
       refine ret1 (.inl rfl) rfl rfl ?_
       exact fun w h => ⟨congrArg (fun b => Ending.returned (Value.bool b)) zz10, h.below⟩
      ·
       try simp only [decide_eq_true_eq, decide_eq_false_iff_not, Bool.and_eq_true, Bool.or_eq_true, beq_iff_eq, bne_iff_ne, ne_eq, Bool.not_eq_true', Bool.not_eq_false', Decidable.not_not] at hb29
       refine wpl_on rfl rfl <| wpl_q (q_pure rfl) rfl <| wpl_on rfl rfl ?_
       refine wpl_q (q8_eql (b := (95 : UInt8)) rfl rfl) rfl ?_
       refine wpl_q (q_pure rfl) rfl <| wpl_q (q_pure rfl) rfl <| wpl_nil <| ex_then <| wpc_ret ?_
       refine ret1 (.inl rfl) rfl rfl ?_
       exact fun w h => ⟨congrArg (fun b => Ending.returned (Value.bool b)) zz10, h.below⟩
   ·
    try simp only [decide_eq_true_eq, decide_eq_false_iff_not, Bool.and_eq_true, Bool.or_eq_true, beq_iff_eq, bne_iff_ne, ne_eq, Bool.not_eq_true', Bool.not_eq_false', Decidable.not_not] at hb12
    refine wpl_off rfl rfl rfl rfl <| wpl_off rfl rfl rfl rfl <| wpl_on rfl rfl <| wpl_q (q_pure rfl) rfl <| wpl_q (q_pure rfl) rfl <| wpl_q (q_pure rfl) rfl <| wpl_on rfl rfl <| wpl_q (q_pure rfl) rfl <| wpl_on rfl rfl <| wpl_q (q_pure rfl) rfl <| wpl_on rfl rfl <| wpl_q (q_pure rfl) rfl ?_
    refine wpl_bool2 20 19 rfl rfl (fun hb20 => ?_) (fun hb20 => ?_)
    ·
     try simp only [decide_eq_true_eq, decide_eq_false_iff_not, Bool.and_eq_true, Bool.or_eq_true, beq_iff_eq, bne_iff_ne, ne_eq, Bool.not_eq_true', Bool.not_eq_false', Decidable.not_not] at hb20
     refine wpl_on rfl rfl <| wpl_q (q_pure rfl) rfl <| wpl_on rfl rfl <| wpl_q (q_pure rfl) rfl <| wpl_on rfl rfl <| wpl_q (q_pure rfl) rfl <| wpl_q (q_pure rfl) rfl <| wpl_q (q_pure rfl) rfl ?_
     refine wpl_bool2 25 22 rfl rfl (fun hb25 => ?_) (fun hb25 => ?_)
     ·
      try simp only [decide_eq_true_eq, decide_eq_false_iff_not, Bool.and_eq_true, Bool.or_eq_true, beq_iff_eq, bne_iff_ne, ne_eq, Bool.not_eq_true', Bool.not_eq_false', Decidable.not_not] at hb25
      refine wpl_off rfl rfl rfl rfl <| wpl_off rfl rfl rfl rfl <| wpl_q (q_pure rfl) rfl <| wpl_q (q_pure rfl) rfl <| wpl_off rfl rfl rfl rfl <| wpl_off rfl rfl rfl rfl <| wpl_q (q_pure rfl) rfl <| wpl_q (q_pure rfl) rfl <| wpl_nil <| ex_then <| wpc_ret ?_
      refine ret1 (.inl rfl) rfl rfl ?_
      exact fun w h => ⟨congrArg (fun b => Ending.returned (Value.bool b)) zz10, h.below⟩
     ·
      try simp only [decide_eq_true_eq, decide_eq_false_iff_not, Bool.and_eq_true, Bool.or_eq_true, beq_iff_eq, bne_iff_ne, ne_eq, Bool.not_eq_true', Bool.not_eq_false', Decidable.not_not] at hb25
      refine wpl_on rfl rfl <| wpl_q (q_pure rfl) rfl <| wpl_on rfl rfl ?_
      refine wpl_q (q8_eql (b := (45 : UInt8)) rfl rfl) rfl ?_
      refine wpl_q (q_pure rfl) rfl <| wpl_q (q_pure rfl) rfl ?_
      refine wpl_bool2 29 27 rfl rfl (fun hb29 => ?_) (fun hb29 => ?_)
      ·
       try simp only [decide_eq_true_eq, decide_eq_false_iff_not, Bool.and_eq_true, Bool.or_eq_true, beq_iff_eq, bne_iff_ne, ne_eq, Bool.not_eq_true', Bool.not_eq_false', Decidable.not_not] at hb29
       refine wpl_off rfl rfl rfl rfl <| wpl_off rfl rfl rfl rfl <| wpl_q (q_pure rfl) rfl <| wpl_q (q_pure rfl) rfl <| wpl_nil <| ex_then <| wpc_ret ?_
       refine ret1 (.inl rfl) rfl rfl ?_
       exact fun w h => ⟨congrArg (fun b => Ending.returned (Value.bool b)) zz10, h.below⟩
      ·
       try simp only [decide_eq_true_eq, decide_eq_false_iff_not, Bool.and_eq_true, Bool.or_eq_true, beq_iff_eq, bne_iff_ne, ne_eq, Bool.not_eq_true', Bool.not_eq_false', Decidable.not_not] at hb29
       refine wpl_on rfl rfl <| wpl_q (q_pure rfl) rfl <| wpl_on rfl rfl ?_
       refine wpl_q (q8_eql (b := (95 : UInt8)) rfl rfl) rfl ?_
       refine wpl_q (q_pure rfl) rfl <| wpl_q (q_pure rfl) rfl <| wpl_nil <| ex_then <| wpc_ret ?_
       refine ret1 (.inl rfl) rfl rfl ?_
       exact fun w h => ⟨congrArg (fun b => Ending.returned (Value.bool b)) zz10, h.below⟩
    ·
     try simp only [decide_eq_true_eq, decide_eq_false_iff_not, Bool.and_eq_true, Bool.or_eq_true, beq_iff_eq, bne_iff_ne, ne_eq, Bool.not_eq_true', Bool.not_eq_false', Decidable.not_not] at hb20
     refine wpl_off rfl rfl rfl rfl <| wpl_off rfl rfl rfl rfl <| wpl_on rfl rfl <| wpl_q (q_pure rfl) rfl <| wpl_q (q_pure rfl) rfl <| wpl_q (q_pure rfl) rfl <| wpl_on rfl rfl <| wpl_q (q_pure rfl) rfl <| wpl_on rfl rfl ?_
     refine wpl_q (q8_eql (b := (45 : UInt8)) rfl rfl) rfl ?_
     refine wpl_q (q_pure rfl) rfl <| wpl_q (q_pure rfl) rfl ?_
     refine wpl_bool2 29 27 rfl rfl (fun hb29 => ?_) (fun hb29 => ?_)
     ·
      try simp only [decide_eq_true_eq, decide_eq_false_iff_not, Bool.and_eq_true, Bool.or_eq_true, beq_iff_eq, bne_iff_ne, ne_eq, Bool.not_eq_true', Bool.not_eq_false', Decidable.not_not] at hb29
      refine wpl_off rfl rfl rfl rfl <| wpl_off rfl rfl rfl rfl <| wpl_q (q_pure rfl) rfl <| wpl_q (q_pure rfl) rfl <| wpl_nil <| ex_then <| wpc_ret ?_
      refine ret1 (.inl rfl) rfl rfl ?_
      exact fun w h => ⟨congrArg (fun b => Ending.returned (Value.bool b)) zz10, h.below⟩
     ·
      try simp only [decide_eq_true_eq, decide_eq_false_iff_not, Bool.and_eq_true, Bool.or_eq_true, beq_iff_eq, bne_iff_ne, ne_eq, Bool.not_eq_true', Bool.not_eq_false', Decidable.not_not] at hb29
      refine wpl_on rfl rfl <| wpl_q (q_pure rfl) rfl <| wpl_on rfl rfl ?_
      refine wpl_q (q8_eql (b := (95 : UInt8)) rfl rfl) rfl ?_
      refine wpl_q (q_pure rfl) rfl <| wpl_q (q_pure rfl) rfl <| wpl_nil <| ex_then <| wpc_ret ?_
      refine ret1 (.inl rfl) rfl rfl ?_
      exact fun w h => ⟨congrArg (fun b => Ending.returned (Value.bool b)) zz10, h.below⟩
end Go.Proofs.YtgnablliekgbgaaDoor
namespace Go.Proofs.YtgnablliekgbgaaDoor
open Go Go.PL Go.RowKit
theorem nameOk (xs : List UInt8) (w : World) (hxl : xs.length ≤ maxLen)  :
    Calls Tryd.prog 29 [str xs].toArray w (Pur w (.bool (nameF xs))) := by
  simp only [maxLen] at hxl
  refine enter (m := 25) (R := Mem w [] [] []) Tryd.func29 rfl rfl (Nat.le_of_ble_eq_true rfl) (Mem.start w) ?_
  refine wpc_seq <| wpc_region <| wpl_q (q_pure rfl) rfl <| wpl_nil <| ex_then <| wpc_seq <| wpc_region <| wpl_q (q_pure rfl) rfl <| wpl_nil <| ex_then <| wpc_seq <| wpc_seq ?_
  refine wpc_region <| wpl_q (q_pure rfl) rfl <| wpl_q (q_lenS Tryd.underlying9 rfl) rfl <| wpl_q (q_pure rfl) rfl <| wpl_nil <| ex_then <| wpc_block ?_
  refine wpc_loopc (ι := { x : Nat // (x ≤ xs.length) ∧ (∀ j, j < x → goodB (xs.getD j 0) = true) }) [(0, _), (3, _), (6, _)] (fun x Lc => (7, .int .i64 ((x.1 : Nat) : Int)) :: Lc) (fun x => Mem w [] [] []) (fun x => xs.length - x.1) ⟨0, ⟨Nat.zero_le _, fun j hj => zz12⟩⟩ zz9 ?_ ?_
  ·
   exact fun w h => h
  ·
   rintro ⟨i, ⟨hi0, hi1⟩⟩; try dsimp only
   have hi0 : i ≤ xs.length := hi0; have hi1 : ∀ j, j < i → goodB (xs.getD j 0) = true := hi1
   refine wpc_seq <| wpc_region <| wpl_q (q_pure rfl) rfl <| wpl_nil <| ex_then <| wpc_seq ?_
   refine wpc_cond rfl (fun hc8 => ?_) (fun hc8 => ?_)
   ·
    simp only [decide_eq_true_eq] at hc8
    have hil : i < xs.length := by omega
    refine wpc_skip <| ex_then <| wpc_seq <| wpc_block <| wpc_seq <| wpc_region <| wpl_q (q_pure rfl) rfl <| wpl_q (q_pure rfl) rfl <| wpl_nil <| ex_then <| wpc_seq <| wpc_region ?_
    refine wpl_q (q_pure rfl) rfl <| wpl_q (q_pure rfl) rfl <| wpl_q (q_pure rfl) rfl ?_
    refine wpl_q (q_strIdx Tryd.underlying9 rfl rfl zz1) rfl ?_
    refine wpl_t (t_purV rfl Tryd.hb54 rfl fun w h => good1 (xs.getD i 0) w) rfl (fun b14 => ?_)
    refine wpl_q (q_pure rfl) rfl <| wpl_nil <| ex_then ?_
    refine wpc_cond rfl (fun hc15 => ?_) (fun hc15 => ?_)
    ·
     have hg : goodB (xs.getD i 0) = false := by simpa using hc15
     refine wpc_seq <| wpc_region <| wpl_q (q_pure rfl) rfl <| wpl_nil <| ex_then <| wpc_ret ?_
     refine ex_block_ret ?_
     refine ex_then_ret ?_
     refine ex_then_ret ?_
     refine ex_block_ret ?_
     refine ex_then_ret ?_
     refine ret1 (.inl rfl) rfl rfl ?_
     exact fun w h => ⟨by rw [show nameF xs = false by exact name_bad hil hg], h.below⟩
    ·
     have hg : goodB (xs.getD i 0) = true := by simpa using hc15
     refine wpc_skip <| ex_block <| ex_then <| wpc_region ?_
     refine wpl_q (q_addN (b := 1) rfl rfl zz1) rfl ?_
     refine wpl_q (q_pure rfl) rfl <| wpl_nil ?_
     refine ex_again ⟨i + 1, ⟨by show i + 1 ≤ xs.length; omega, fun j hj => by rcases Nat.lt_or_ge j i with h | h; exact hi1 j h; obtain rfl : j = i := (by have hj : j < i + 1 := hj; omega); exact hg⟩⟩ ?_ ?_ ?_
     ·
      exact zz9
     ·
      exact fun w h => by first | exact h | exact h.sub SubC.h SubC.h | exact h.sub zz8 zz8
     ·
      (show xs.length - (i + 1) < xs.length - i); omega
   ·
    simp only [decide_eq_false_iff_not] at hc8
    obtain rfl : i = xs.length := by omega
    refine wpc_exit ?_
    refine ex_then_exit ?_
    refine ex_then_exit ?_
    refine ex_block_hit ?_
    refine ex_then <| wpc_seq <| wpc_region <| wpl_q (q_pure rfl) rfl <| wpl_q (q_lenS Tryd.underlying9 rfl) rfl <| wpl_q (q_pure rfl) rfl <| wpl_q (q_pure rfl) rfl ?_
    refine wpl_bool2 20 19 rfl rfl (fun hb20 => ?_) (fun hb20 => ?_)
    ·
     have hl1 : 1 ≤ xs.length := by have := of_decide_eq_true hb20; omega
     refine wpl_on rfl rfl <| wpl_q (q_pure rfl) rfl <| wpl_on rfl rfl <| wpl_q (q_lenS Tryd.underlying9 rfl) rfl <| wpl_on rfl rfl <| wpl_q (q_pure rfl) rfl <| wpl_q (q_pure rfl) rfl <| wpl_q (q_pure rfl) rfl <| wpl_nil <| ex_then <| wpc_ret ?_
     refine ret1 (.inl rfl) rfl rfl ?_
     exact fun w h => ⟨by rw [name_all hi1]; first | (rw [decide_eq_true hl1, Bool.true_and]; exact congrArg (fun b => Ending.returned (Value.bool b)) (decide_eq_decide.2 zz12)) | (rw [decide_eq_false hl0]; rfl), h.below⟩
    ·
     have hl0 : ¬ 1 ≤ xs.length := by have := of_decide_eq_false hb20; omega
     refine wpl_off rfl rfl rfl rfl <| wpl_off rfl rfl rfl rfl <| wpl_off rfl rfl rfl rfl <| wpl_q (q_pure rfl) rfl <| wpl_q (q_pure rfl) rfl <| wpl_nil <| ex_then <| wpc_ret ?_
     refine ret1 (.inl rfl) rfl rfl ?_
     exact fun w h => ⟨by rw [name_all hi1]; first | (rw [decide_eq_true hl1, Bool.true_and]; exact congrArg (fun b => Ending.returned (Value.bool b)) (decide_eq_decide.2 zz12)) | (rw [decide_eq_false hl0]; rfl), h.below⟩
end Go.Proofs.YtgnablliekgbgaaDoor
namespace Go.Proofs.YtgnablliekgbgaaDoor
open Go Go.PL Go.RowKit
theorem rvCheck (l : Rv) (w : World) (hl : l.seen w.cell?) (hnl : l.nm.length ≤ maxLen)  :
    Calls Tryd.prog 10 [.agg l.c.toArray].toArray w (Pur w (.int .i64 (chkR l))) := by
  haveI := hl.svs.one
  have lss := hl.s.sv.le
  have lcs := hl.c.sv.le
  have lps := hl.p.sv.le
  have sss := hl.s.sv
  have scs := hl.c.sv
  have sps := hl.p.sv
  simp only [maxLen] at lss lcs lps
  refine enter (m := 66) (R := Mem w [] [] []) Tryd.func10 rfl rfl (Nat.le_of_ble_eq_true rfl) (Mem.start w) ?_
  refine wpc_seq <| wpc_region ?_
  refine wpl_t (t_box rfl l.c rfl) rfl (fun b1 => ?_)
  refine wpl_q (q_pure rfl) rfl <| wpl_nil <| ex_then <| wpc_seq <| wpc_seq <| wpc_region <| wpl_q (q_field Tryd.underlying32 rfl Tryd.ti22 rfl rfl _ rfl) rfl <| wpl_q (q_ld Tryd.underlying22 rfl rfl (show l.c[4]? = some (l.sv) from rfl)) rfl ?_
  refine wpl_q (q_lenW Tryd.underlying22 rfl zz3) rfl ?_
  refine wpl_q (q_pure rfl) rfl <| wpl_nil <| ex_then ?_
  refine wpc_cond rfl (fun hc10 => ?_) (fun hc10 => ?_)
  ·
   have h5 : 500 < l.ss.length := by have := of_decide_eq_true hc10; omega
   refine wpc_seq <| wpc_region <| wpl_q (q_pure rfl) rfl <| wpl_nil <| ex_then <| wpc_ret ?_
   refine ex_then_ret ?_
   refine ret1 (.inl rfl) rfl rfl ?_
   exact fun w h => ⟨by rw [chk_4 h5], h.below⟩
  ·
   have h5 : ¬ 500 < l.ss.length := by have := of_decide_eq_false hc10; omega
   refine wpc_skip <| ex_then ?_
   refine wpc_cutc ({ x : Unit // True }) [(1, .pointer (some ⟨b1, 0, none⟩))] (fun x Lc => (3, .bool (nameF l.nm && winF l.fr l.tt)) :: Lc) (fun x => Mem w [] [.blk b1 32 l.c] []) ?_ ?_
   ·
    refine wpc_region <| wpl_q (q_field Tryd.underlying32 rfl Tryd.ti9 rfl rfl _ rfl) rfl <| wpl_q (q_ld Tryd.underlying9 rfl rfl (show l.c[0]? = some (str l.nm) from rfl)) rfl ?_
    refine wpl_t (t_pur Tryd.hb29 rfl fun w h => nameOk l.nm w hnl) rfl (fun b13 => ?_)
    refine wpl_q (q_pure rfl) rfl ?_
    refine wpl_bool2 14 13 rfl rfl (fun hb14 => ?_) (fun hb14 => ?_)
    ·
     have hn : nameF l.nm = true := hb14
     refine wpl_on rfl rfl <| wpl_q (q_field Tryd.underlying32 rfl Tryd.ti27 rfl rfl _ rfl) rfl <| wpl_on rfl rfl <| wpl_q (q_ldP Tryd.underlying27 rfl Tryd.ti27 rfl l.win rfl rfl) rfl <| wpl_on rfl rfl ?_
     refine wpl_t (t_pur Tryd.hb30 rfl fun w h => clockCheck l.fr l.tt w) rfl (fun b17 => ?_)
     refine wpl_on rfl rfl <| wpl_q (q_pure rfl) rfl <| wpl_q (q_pure rfl) rfl ?_
     refine wpl_re 19 rfl (congrArg Value.bool (show _ = (nameF l.nm && winF l.fr l.tt) by first | (rw [hn, Bool.true_and]; cases winF l.fr l.tt <;> rfl) | (rw [hn]; rfl))) ?_
     refine wpl_q (q_pure rfl) rfl <| wpl_nil ?_
     refine ex_mid ⟨(), trivial⟩ ?_ ?_
     ·
      exact zz9
     ·
      exact fun w h => by first | exact h | exact h.sub SubC.h SubC.h | exact h.sub zz8 zz8
    ·
     have hn : nameF l.nm = false := hb14
     refine wpl_off rfl rfl rfl rfl <| wpl_off rfl rfl rfl rfl <| wpl_off rfl rfl rfl rfl <| wpl_off rfl rfl rfl rfl <| wpl_q (q_pure rfl) rfl ?_
     refine wpl_re 19 rfl (congrArg Value.bool (show _ = (nameF l.nm && winF l.fr l.tt) by first | (rw [hn, Bool.true_and]; cases winF l.fr l.tt <;> rfl) | (rw [hn]; rfl))) ?_
     refine wpl_q (q_pure rfl) rfl <| wpl_nil ?_
     refine ex_mid ⟨(), trivial⟩ ?_ ?_
     ·
      exact zz9
     ·
      exact fun w h => by first | exact h | exact h.sub SubC.h SubC.h | exact h.sub zz8 zz8
   ·
    rintro ⟨_, _⟩; try dsimp only
    refine wpc_cutc ({ x : Unit // True }) [(1, .pointer (some ⟨b1, 0, none⟩))] (fun x Lc => (3, .bool (okA l)) :: Lc) (fun x => Mem w [] [.blk b1 32 l.c] []) ?_ ?_
    ·
     refine wpc_cutc ({ x : Unit // True }) [(1, .pointer (some ⟨b1, 0, none⟩)), (3, .bool (nameF l.nm && winF l.fr l.tt))] (fun x Lc => (37, .bool (sigB l.ix l.chs.length l.ps.length)) :: Lc) (fun x => Mem w [] [.blk b1 32 l.c] []) ?_ ?_
     ·
      refine wpc_region <| wpl_q (q_field Tryd.underlying32 rfl Tryd.ti30 rfl rfl _ rfl) rfl <| wpl_q (q_field Tryd.underlying30 rfl Tryd.ti3 rfl rfl _ rfl) rfl <| wpl_q (q_ld Tryd.underlying3 rfl rfl (show l.c[5]? = some (.int .i64 l.ix) from rfl)) rfl <| wpl_q (q_pure rfl) rfl <| wpl_q (q_pure rfl) rfl ?_
      refine wpl_bool2 24 23 rfl rfl (fun hb24 => ?_) (fun hb24 => ?_)
      ·
       try simp only [decide_eq_true_eq, decide_eq_false_iff_not, Bool.and_eq_true, Bool.or_eq_true, beq_iff_eq, bne_iff_ne, ne_eq, Bool.not_eq_true', Bool.not_eq_false', Decidable.not_not] at hb24
       refine wpl_off rfl rfl rfl rfl <| wpl_off rfl rfl rfl rfl <| wpl_off rfl rfl rfl rfl <| wpl_off rfl rfl rfl rfl <| wpl_off rfl rfl rfl rfl <| wpl_q (q_pure rfl) rfl <| wpl_q (q_pure rfl) rfl <| wpl_off rfl rfl rfl rfl <| wpl_off rfl rfl rfl rfl <| wpl_off rfl rfl rfl rfl <| wpl_off rfl rfl rfl rfl <| wpl_off rfl rfl rfl rfl ?_
       refine wpl_q (q_pure rfl) rfl ?_
       refine wpl_re 37 rfl (congrArg Value.bool (show _ = (sigB l.ix l.chs.length l.ps.length) from by
         (try simp only [bne_iff_ne, ne_eq, bne_eq_false_iff_eq, decide_eq_true_eq, decide_eq_false_iff_not, gt_iff_lt] at *)
         first
         | exact (show sigB l.ix l.chs.length l.ps.length = true by simp only [sigB, Bool.or_eq_true, decide_eq_true_eq]; omega).symm
         | (rw [Bool.eq_iff_iff]; simp only [sigB, Bool.or_eq_true, decide_eq_true_eq]; omega))) ?_
       refine wpl_nil ?_
       refine ex_mid ⟨(), trivial⟩ ?_ ?_
       ·
        exact zz9
       ·
        exact fun w h => by first | exact h | exact h.sub SubC.h SubC.h | exact h.sub zz8 zz8
      ·
       try simp only [decide_eq_true_eq, decide_eq_false_iff_not, Bool.and_eq_true, Bool.or_eq_true, beq_iff_eq, bne_iff_ne, ne_eq, Bool.not_eq_true', Bool.not_eq_false', Decidable.not_not] at hb24
       refine wpl_on rfl rfl <| wpl_q (q_field Tryd.underlying32 rfl Tryd.ti30 rfl rfl _ rfl) rfl <| wpl_on rfl rfl <| wpl_q (q_field Tryd.underlying30 rfl Tryd.ti28 rfl rfl _ rfl) rfl <| wpl_on rfl rfl <| wpl_q (q_ld Tryd.underlying28 rfl rfl (show l.c[6]? = some (l.cv) from rfl)) rfl <| wpl_on rfl rfl ?_
       refine wpl_q (q_lenW Tryd.underlying28 rfl zz3) rfl ?_
       refine wpl_on rfl rfl <| wpl_q (q_pure rfl) rfl <| wpl_q (q_pure rfl) rfl <| wpl_q (q_pure rfl) rfl ?_
       refine wpl_bool2 31 29 rfl rfl (fun hb31 => ?_) (fun hb31 => ?_)
       ·
        try simp only [decide_eq_true_eq, decide_eq_false_iff_not, Bool.and_eq_true, Bool.or_eq_true, beq_iff_eq, bne_iff_ne, ne_eq, Bool.not_eq_true', Bool.not_eq_false', Decidable.not_not] at hb31
        refine wpl_off rfl rfl rfl rfl <| wpl_off rfl rfl rfl rfl <| wpl_off rfl rfl rfl rfl <| wpl_off rfl rfl rfl rfl <| wpl_off rfl rfl rfl rfl <| wpl_q (q_pure rfl) rfl ?_
        refine wpl_re 37 rfl (congrArg Value.bool (show _ = (sigB l.ix l.chs.length l.ps.length) from by
          (try simp only [bne_iff_ne, ne_eq, bne_eq_false_iff_eq, decide_eq_true_eq, decide_eq_false_iff_not, gt_iff_lt] at *)
          first
          | exact (show sigB l.ix l.chs.length l.ps.length = true by simp only [sigB, Bool.or_eq_true, decide_eq_true_eq]; omega).symm
          | (rw [Bool.eq_iff_iff]; simp only [sigB, Bool.or_eq_true, decide_eq_true_eq]; omega))) ?_
        refine wpl_nil ?_
        refine ex_mid ⟨(), trivial⟩ ?_ ?_
        ·
         exact zz9
        ·
         exact fun w h => by first | exact h | exact h.sub SubC.h SubC.h | exact h.sub zz8 zz8
       ·
        try simp only [decide_eq_true_eq, decide_eq_false_iff_not, Bool.and_eq_true, Bool.or_eq_true, beq_iff_eq, bne_iff_ne, ne_eq, Bool.not_eq_true', Bool.not_eq_false', Decidable.not_not] at hb31
        refine wpl_on rfl rfl <| wpl_q (q_field Tryd.underlying32 rfl Tryd.ti30 rfl rfl _ rfl) rfl <| wpl_on rfl rfl <| wpl_q (q_field Tryd.underlying30 rfl Tryd.ti28 rfl rfl _ rfl) rfl <| wpl_on rfl rfl <| wpl_q (q_ld Tryd.underlying28 rfl rfl (show l.c[7]? = some (l.pv) from rfl)) rfl <| wpl_on rfl rfl ?_
        refine wpl_q (q_lenW Tryd.underlying28 rfl zz3) rfl ?_
        refine wpl_on rfl rfl <| wpl_q (q_pure rfl) rfl <| wpl_q (q_pure rfl) rfl ?_
        refine wpl_re 37 rfl (congrArg Value.bool (show _ = (sigB l.ix l.chs.length l.ps.length) from by
          (try simp only [bne_iff_ne, ne_eq, bne_eq_false_iff_eq, decide_eq_true_eq, decide_eq_false_iff_not, gt_iff_lt] at *)
          first
          | exact (show sigB l.ix l.chs.length l.ps.length = true by simp only [sigB, Bool.or_eq_true, decide_eq_true_eq]; omega).symm
          | (rw [Bool.eq_iff_iff]; simp only [sigB, Bool.or_eq_true, decide_eq_true_eq]; omega))) ?_
        refine wpl_nil ?_
        refine ex_mid ⟨(), trivial⟩ ?_ ?_
        ·
         exact zz9
        ·
         exact fun w h => by first | exact h | exact h.sub SubC.h SubC.h | exact h.sub zz8 zz8
     ·
      rintro ⟨_, _⟩; try dsimp only
      refine wpc_cond rfl (fun hc37 => ?_) (fun hc37 => ?_)
      ·
       have hs : (sigB l.ix l.chs.length l.ps.length) = true := hc37
       refine wpc_region <| wpl_q (q_pure rfl) rfl <| wpl_q (q_pure rfl) rfl ?_
       refine wpl_bool2 39 3 rfl rfl (fun hb39 => ?_) (fun hb39 => ?_)
       ·
        have hnw : (nameF l.nm && winF l.fr l.tt) = true := hb39
        refine wpl_on rfl rfl <| wpl_q (q_field Tryd.underlying32 rfl Tryd.ti30 rfl rfl _ rfl) rfl <| wpl_on rfl rfl <| wpl_q (q_field Tryd.underlying30 rfl Tryd.ti28 rfl rfl _ rfl) rfl <| wpl_on rfl rfl <| wpl_q (q_ld Tryd.underlying28 rfl rfl (show l.c[7]? = some (l.pv) from rfl)) rfl <| wpl_on rfl rfl ?_
        refine wpl_q (q_lenW Tryd.underlying28 rfl zz3) rfl ?_
        refine wpl_on rfl rfl <| wpl_q (q_field Tryd.underlying32 rfl Tryd.ti30 rfl rfl _ rfl) rfl <| wpl_on rfl rfl <| wpl_q (q_ldP Tryd.underlying30 rfl Tryd.ti30 rfl l.sig rfl rfl) rfl <| wpl_on rfl rfl ?_
        refine wpl_t (t_pur Tryd.hb31 rfl fun w h => check7 ((l.ps.length : Nat) : Int) l.ix l.cv l.pv l.chs l.ps w scs sps) rfl (fun b46 => ?_)
        refine wpl_on rfl rfl <| wpl_q (q_pure rfl) rfl <| wpl_q (q_pure rfl) rfl ?_
        refine wpl_re 48 rfl (congrArg Value.bool (show _ = okA l by unfold okA gsigB; rw [hs, hnw]; first | rfl | simp)) ?_
        refine wpl_q (q_pure rfl) rfl <| wpl_nil ?_
        refine ex_mid ⟨(), trivial⟩ ?_ ?_
        ·
         exact zz9
        ·
         exact fun w h => by first | exact h | exact h.sub SubC.h SubC.h | exact h.sub zz8 zz8
       ·
        have hnw : (nameF l.nm && winF l.fr l.tt) = false := hb39
        refine wpl_off rfl rfl rfl rfl <| wpl_off rfl rfl rfl rfl <| wpl_off rfl rfl rfl rfl <| wpl_off rfl rfl rfl rfl <| wpl_off rfl rfl rfl rfl <| wpl_off rfl rfl rfl rfl <| wpl_off rfl rfl rfl rfl <| wpl_off rfl rfl rfl rfl <| wpl_q (q_pure rfl) rfl ?_
        refine wpl_re 48 rfl (congrArg Value.bool (show _ = okA l by unfold okA gsigB; rw [hs, hnw]; first | rfl | simp)) ?_
        refine wpl_q (q_pure rfl) rfl <| wpl_nil ?_
        refine ex_mid ⟨(), trivial⟩ ?_ ?_
        ·
         exact zz9
        ·
         exact fun w h => by first | exact h | exact h.sub SubC.h SubC.h | exact h.sub zz8 zz8
      ·
       have hs : (sigB l.ix l.chs.length l.ps.length) = false := hc37
       refine wpc_re 3 rfl (congrArg Value.bool (show _ = okA l by unfold okA gsigB; rw [hs]; simp)) ?_
       refine wpc_skip ?_
       refine ex_mid ⟨(), trivial⟩ ?_ ?_
       ·
        exact zz9
       ·
        exact fun w h => by first | exact h | exact h.sub SubC.h SubC.h | exact h.sub zz8 zz8
    ·
     rintro ⟨_, _⟩; try dsimp only
     refine wpc_seq <| wpc_region <| wpl_q (q_pure rfl) rfl <| wpl_nil <| ex_then <| wpc_seq <| wpc_seq <| wpc_region <| wpl_q (q_field Tryd.underlying32 rfl Tryd.ti22 rfl rfl _ rfl) rfl <| wpl_q (q_ld Tryd.underlying22 rfl rfl (show l.c[4]? = some (l.sv) from rfl)) rfl ?_
     refine wpl_q (q_lenW Tryd.underlying22 rfl zz3) rfl ?_
     refine wpl_re 3 rfl (congrArg Value.bool (show _ = (okA l && decide (incF l.ss 0)) by rw [decide_eq_true (incF_0 _), Bool.and_true])) ?_
     refine wpl_q (q_pure rfl) rfl <| wpl_nil <| ex_then <| wpc_block ?_
     refine wpc_loopc (ι := { x : Nat // (x ≤ l.ss.length) }) [(50, _), (51, _)] (fun x Lc => (52, .int .i64 ((x.1 : Nat) : Int)) :: (4, .int .u64 ((lastN l.ss x.1).toNat : Int)) :: (3, .bool (okA l && decide (incF l.ss x.1))) :: Lc) (fun x => Mem w [] [.blk b1 32 l.c] []) (fun x => l.ss.length - x.1) ⟨0, Nat.zero_le _⟩ zz9 ?_ ?_
     ·
      exact fun w h => h
     ·
      rintro ⟨i, hi0⟩; try dsimp only
      have hi0 : i ≤ l.ss.length := hi0
      refine wpc_seq <| wpc_region <| wpl_q (q_pure rfl) rfl <| wpl_nil <| ex_then <| wpc_seq ?_
      refine wpc_cond rfl (fun hc53 => ?_) (fun hc53 => ?_)
      ·
       simp only [decide_eq_true_eq] at hc53
       have hil : i < l.ss.length := by omega
       refine wpc_skip <| ex_then <| wpc_seq <| wpc_block <| wpc_seq <| wpc_region ?_
       refine wpl_q (q_idxW1 Tryd.underlying22 Tryd.ti23 rfl rfl zz3 zz1) rfl ?_
       refine wpl_q (q_ldW Tryd.underlying23 rfl rfl (fun w h => h.seen_old hl.s) (by first | exact v64s_get zz6 | rfl)) rfl ?_
       refine wpl_q (q_pure rfl) rfl <| wpl_nil <| ex_then <| wpc_seq <| wpc_region <| wpl_q (q_pure rfl) rfl <| wpl_q (q_pure rfl) rfl ?_
       refine wpl_bool2 57 3 rfl rfl (fun hb57 => ?_) (fun hb57 => ?_)
       ·
        have hk : (okA l && decide (incF l.ss i)) = true := hb57
        refine wpl_on rfl rfl <| wpl_q (q_pure rfl) rfl <| wpl_on rfl rfl <| wpl_q (q_pure rfl) rfl <| wpl_on rfl rfl <| wpl_q (q_pure rfl) rfl <| wpl_q (q_pure rfl) rfl ?_
        refine wpl_re 61 rfl (congrArg Value.bool (show _ = (okA l && decide (incF l.ss (i + 1))) by
          rw [decide_eq_decide.2 incF_S, Bool.decide_and, ← Bool.and_assoc, hk]
          first
          | rfl
          | (rw [Bool.true_and]; first | rfl | exact decide_eq_decide.2 (by first | exact Iff.rfl | (rw [UInt64.lt_iff_toNat_lt]; omega))))) ?_
        refine wpl_q (q_pure rfl) rfl <| wpl_nil <| ex_then <| wpc_region <| wpl_q (q_pure rfl) rfl <| wpl_q (q_pure rfl) rfl <| wpl_nil <| ex_block <| ex_then <| wpc_region ?_
        refine wpl_q (q_addN (b := 1) rfl rfl zz1) rfl ?_
        refine wpl_q (q_pure rfl) rfl <| wpl_nil ?_
        refine ex_again ⟨i + 1, (show i + 1 ≤ l.ss.length from zz12)⟩ ?_ ?_ ?_
        ·
         exact zz9
        ·
         exact fun w h => by first | exact h | exact h.sub SubC.h SubC.h | exact h.sub zz8 zz8
        ·
         (show l.ss.length - (i + 1) < l.ss.length - i); omega
       ·
        have hk : (okA l && decide (incF l.ss i)) = false := hb57
        refine wpl_off rfl rfl rfl rfl <| wpl_off rfl rfl rfl rfl <| wpl_off rfl rfl rfl rfl <| wpl_q (q_pure rfl) rfl ?_
        refine wpl_re 61 rfl (congrArg Value.bool (show _ = (okA l && decide (incF l.ss (i + 1))) by
          rw [decide_eq_decide.2 incF_S, Bool.decide_and, ← Bool.and_assoc, hk]
          first
          | rfl
          | (rw [Bool.true_and]; first | rfl | exact decide_eq_decide.2 (by first | exact Iff.rfl | (rw [UInt64.lt_iff_toNat_lt]; omega))))) ?_
        refine wpl_q (q_pure rfl) rfl <| wpl_nil <| ex_then <| wpc_region <| wpl_q (q_pure rfl) rfl <| wpl_q (q_pure rfl) rfl <| wpl_nil <| ex_block <| ex_then <| wpc_region ?_
        refine wpl_q (q_addN (b := 1) rfl rfl zz1) rfl ?_
        refine wpl_q (q_pure rfl) rfl <| wpl_nil ?_
        refine ex_again ⟨i + 1, (show i + 1 ≤ l.ss.length from zz12)⟩ ?_ ?_ ?_
        ·
         exact zz9
        ·
         exact fun w h => by first | exact h | exact h.sub SubC.h SubC.h | exact h.sub zz8 zz8
        ·
         (show l.ss.length - (i + 1) < l.ss.length - i); omega
      ·
       simp only [decide_eq_false_iff_not] at hc53
       obtain rfl : i = l.ss.length := by omega
       refine wpc_exit ?_
       refine ex_then_exit ?_
       refine ex_then_exit ?_
       refine ex_block_hit ?_
       refine ex_then <| wpc_seq <| wpc_seq <| wpc_region <| wpl_q (q_pure rfl) rfl <| wpl_q (q_pure rfl) rfl <| wpl_nil <| ex_then ?_
       refine wpc_cond rfl (fun hc65 => ?_) (fun hc65 => ?_)
       ·
        have hk : okR l = false := by rw [Bool.not_eq_true'] at hc65; exact hc65
        refine wpc_seq <| wpc_region <| wpl_q (q_pure rfl) rfl <| wpl_nil <| ex_then <| wpc_ret ?_
        refine ex_then_ret ?_
        refine ret1 (.inl rfl) rfl rfl ?_
        exact fun w h => ⟨by rw [chk_8 h5 hk], h.below⟩
       ·
        have hk : okR l = true := by rw [Bool.not_eq_false'] at hc65; exact hc65
        refine wpc_skip <| ex_then <| wpc_seq <| wpc_region <| wpl_q (q_pure rfl) rfl <| wpl_nil <| ex_then <| wpc_ret ?_
        refine ret1 (.inl rfl) rfl rfl ?_
        exact fun w h => ⟨by rw [chk_ok h5 hk], h.below⟩
end Go.Proofs.YtgnablliekgbgaaDoor
namespace Go.Proofs.YtgnablliekgbgaaDoor
open Go Go.PL Go.RowKit
theorem q_mid {P : Program} {n : Cx} {R : World → Prop} {L : Slots} {s t : TypeId} {x : Operand} {m : Nat} {ds : TypeDesc} (hs' : P.underlying s = some ds) (hu : P.underlying t = some (.int .i64)) (hx : ev L x = some (.int .u64 (sr64 (of64 ((m : Nat) : Int)) 1).toNat)) (h : m < 9223372036854775808) : QOp P n R L (.convert s t x) (.int .i64 ((m / 2 : Nat) : Int)) := by
  have e : (sr64 (of64 ((m : Nat) : Int)) 1).toNat = m / 2 := by
    unfold sr64
    rw [UInt64.toNat_ofNat', of64_nat m zz12, show min 1 64 = 1 from rfl, Nat.pow_one]
    omega
  have q := q64_intN (P := P) (n := n) (R := R) hs' hu hx (by rw [e]; omega)
  rwa [e] at q
theorem getD64 {xs : List UInt64} {j : Nat} (hj : j < xs.length) : xs.getD j 0 = xs[j] := by rw [List.getD_eq_getElem?_getD, List.getElem?_eq_getElem hj]; rfl
theorem sr_mem {xs : List UInt64} {s : UInt64} {i : Nat} (hs : ∀ j, j < xs.length → ∀ k, k < j → xs.getD k 0 < xs.getD j 0) (h1 : ∀ k, k < i → k < xs.length → xs.getD k 0 < s) (h2 : ∀ k, i ≤ k → k < xs.length → ¬ xs.getD k 0 < s) : s ∈ xs ↔ i < xs.length ∧ xs.getD i 0 = s := by
  constructor
  · intro hm
    obtain ⟨k, hk, e⟩ := List.mem_iff_getElem.1 hm
    have ek := getD64 hk
    rw [e] at ek
    have hki : i ≤ k := by
      rcases Nat.lt_or_ge k i with h | h
      · have := h1 k h hk
        rw [ek] at this
        exact absurd this (UInt64.lt_irrefl _)
      · exact h
    rcases Nat.lt_or_ge i k with h | h
    · have h3 := hs k hk i h
      rw [ek] at h3
      exact absurd h3 (h2 i (Nat.le_refl _) zz12)
    · obtain rfl : k = i := by omega
      exact ⟨hk, ek⟩
  · rintro ⟨h3, h4⟩
    rw [← h4, getD64 h3]
    exact List.getElem_mem h3
theorem isNaN1 (x : UInt64) (w : World)   :
    Calls Tryd.prog 80 [.int .u64 x.toNat].toArray w (Pur w (.bool false)) := by
  refine enter (m := 6) (R := Mem w [] [] []) Tryd.func80 rfl rfl (Nat.le_of_ble_eq_true rfl) (Mem.start w) ?_
  refine wpc_seq <| wpc_region <| wpl_q (q_pure rfl) rfl <| wpl_nil <| ex_then <| wpc_seq <| wpc_region <| wpl_q (q_pure rfl) rfl <| wpl_q (q_pure rfl) rfl <| wpl_q (q64_neq rfl rfl) rfl <| wpl_q (q_pure rfl) rfl <| wpl_nil ?_
  refine ex_then <| wpc_ret ?_
  refine ret1 (.inl rfl) rfl rfl ?_
  exact fun w h => ⟨zz40, h.below⟩
theorem isNaN2 (x : UInt64) (w : World)   :
    Calls Tryd.prog 53 [.int .u64 x.toNat].toArray w (Pur w (.bool false)) := by
  refine enter (m := 6) (R := Mem w [] [] []) Tryd.func53 rfl rfl (Nat.le_of_ble_eq_true rfl) (Mem.start w) ?_
  refine wpc_seq <| wpc_region <| wpl_q (q_pure rfl) rfl <| wpl_nil <| ex_then <| wpc_seq <| wpc_region <| wpl_q (q_pure rfl) rfl <| wpl_q (q_pure rfl) rfl <| wpl_q (q64_neq rfl rfl) rfl <| wpl_q (q_pure rfl) rfl <| wpl_nil ?_
  refine ex_then <| wpc_ret ?_
  refine ret1 (.inl rfl) rfl rfl ?_
  exact fun w h => ⟨zz40, h.below⟩
theorem less (x : UInt64) (y : UInt64) (w : World)   :
    Calls Tryd.prog 52 [.int .u64 x.toNat, .int .u64 y.toNat].toArray w (Pur w (.bool (decide (x < y)))) := by
  refine enter (m := 17) (R := Mem w [] [] []) Tryd.func52 rfl rfl (Nat.le_of_ble_eq_true rfl) (Mem.start w) ?_
  refine wpc_seq <| wpc_region <| wpl_q (q_pure rfl) rfl <| wpl_nil <| ex_then <| wpc_seq <| wpc_region <| wpl_q (q_pure rfl) rfl ?_
  refine wpl_t (t_pur (v := .bool false) Tryd.hb80 rfl fun w h => isNaN1 x w) rfl (fun b6 => ?_)
  refine wpl_q (q_pure rfl) rfl <| wpl_off rfl rfl rfl rfl <| wpl_off rfl rfl rfl rfl <| wpl_off rfl rfl rfl rfl <| wpl_q (q_pure rfl) rfl <| wpl_q (q_pure rfl) rfl <| wpl_on rfl rfl <| wpl_q (q_pure rfl) rfl <| wpl_on rfl rfl <| wpl_q (q_pure rfl) rfl <| wpl_on rfl rfl <| wpl_q (q_pure rfl) rfl ?_
  refine wpl_q (q_pure rfl) rfl <| wpl_q (q_pure rfl) rfl <| wpl_nil <| ex_then <| wpc_ret ?_
  refine ret1 (.inl rfl) rfl rfl ?_
  exact fun w h => ⟨by first | rfl | (congr 2; exact decide_eq_decide.2 (by rw [UInt64.lt_iff_toNat_lt]; omega)), h.below⟩
theorem binary (av : Value) (xs : List UInt64) (s : UInt64) (w : World) (hav : Seen w.cell? av xs.length 1 (v64s xs)) (hxl : xs.length ≤ 1000) (hsort : ∀ j, j < xs.length → ∀ k, k < j → xs.getD k 0 < xs.getD j 0) :
    Calls Tryd.prog 28 [av, .int .u64 s.toNat].toArray w (GivesP w (fun k : Nat => k ≤ xs.length) (fun k => .tuple #[.int .i64 ((k : Nat) : Int), .bool (decide (s ∈ xs))]) (fun _ => []) (fun _ => [])) := by
  have sav := hav.sv
  have lav := sav.le
  simp only [maxLen] at lav
  refine enter (m := 54) (R := Mem w [] [] []) Tryd.func28 rfl rfl (Nat.le_of_ble_eq_true rfl) (Mem.start w) ?_
  refine wpc_seq <| wpc_region <| wpl_q (q_pure rfl) rfl <| wpl_q (q_pure rfl) rfl <| wpl_nil <| ex_then <| wpc_seq <| wpc_region <| wpl_q (q_pure rfl) rfl ?_
  refine wpl_q (q_lenW Tryd.underlying22 rfl zz3) rfl ?_
  refine wpl_q (q_pure rfl) rfl <| wpl_nil <| ex_then <| wpc_seq <| wpc_region <| wpl_q (q_pure rfl) rfl <| wpl_q (q_pure rfl) rfl <| wpl_q (q_pure rfl) rfl <| wpl_nil <| ex_then <| wpc_seq <| wpc_block ?_
  refine wpc_loopc (ι := { x : Nat × Nat // (x.1 ≤ x.2) ∧ (x.2 ≤ xs.length) ∧ (∀ k, k < x.1 → k < xs.length → xs.getD k 0 < s) ∧ (∀ k, x.2 ≤ k → k < xs.length → ¬ xs.getD k 0 < s) }) [(0, _), (1, _), (6, _)] (fun x Lc => (7, .int .i64 ((x.1.1 : Nat) : Int)) :: (8, .int .i64 ((x.1.2 : Nat) : Int)) :: Lc) (fun x => Mem w [] [] []) (fun x => x.1.2 - x.1.1) ⟨(0, xs.length), ⟨Nat.zero_le _, Nat.le_refl _, fun k hk => absurd hk (Nat.not_lt_zero _), fun k h1 h2 => absurd h2 zz12⟩⟩ zz9 ?_ ?_
  ·
   exact fun w h => h
  ·
   rintro ⟨⟨i, j⟩, ⟨hi0, hi1, hi2, hi3⟩⟩; try dsimp only
   have hi0 : i ≤ j := hi0; have hi1 : j ≤ xs.length := hi1; have hi2 : ∀ k, k < i → k < xs.length → xs.getD k 0 < s := hi2; have hi3 : ∀ k, j ≤ k → k < xs.length → ¬ xs.getD k 0 < s := hi3
   refine wpc_seq <| wpc_seq <| wpc_region <| wpl_q (q_pure rfl) rfl <| wpl_q (q_pure rfl) rfl <| wpl_q (q_pure rfl) rfl <| wpl_nil <| ex_then ?_
   refine wpc_cond rfl (fun hc15 => ?_) (fun hc15 => ?_)
   ·
    simp only [decide_eq_true_eq] at hc15
    have hij : i < j := by omega
    have hmid : (i + j) / 2 < xs.length := by omega
    refine wpc_skip <| ex_then <| wpc_block <| wpc_seq <| wpc_region <| wpl_q (q_pure rfl) rfl <| wpl_q (q_pure rfl) rfl ?_
    refine wpl_q (q_addN rfl rfl zz1) rfl ?_
    refine wpl_q (q64_conv Tryd.underlying3 Tryd.underlying100 rfl) rfl ?_
    refine wpl_q (q64_shr rfl rfl zz24 1 rfl) rfl ?_
    refine wpl_q (q_mid Tryd.underlying100 Tryd.underlying3 rfl zz12) rfl ?_
    refine wpl_q (q_pure rfl) rfl <| wpl_nil <| ex_then <| wpc_seq <| wpc_region <| wpl_q (q_pure rfl) rfl <| wpl_q (q_pure rfl) rfl ?_
    refine wpl_q (q_idxW1 Tryd.underlying22 Tryd.ti23 rfl rfl zz3 zz1) rfl ?_
    refine wpl_q (q_ldW Tryd.underlying23 rfl rfl (fun w h => h.seen_old hav) (by first | exact v64s_get zz6 | rfl)) rfl ?_
    refine wpl_q (q_pure rfl) rfl ?_
    refine wpl_t (t_pur Tryd.hb52 rfl fun w h => less (xs.getD ((i + j) / 2) 0) s w) rfl (fun b27 => ?_)
    refine wpl_nil <| ex_then ?_
    refine wpc_cond rfl (fun hc27 => ?_) (fun hc27 => ?_)
    ·
     have hls : xs.getD ((i + j) / 2) 0 < s := of_decide_eq_true hc27
     have hlt : ∀ k, k ≤ (i + j) / 2 → k < xs.length → xs.getD k 0 < s := fun k h1 h2 => by
       rcases Nat.lt_or_ge k ((i + j) / 2) with h | h
       · exact UInt64.lt_trans (hsort _ hmid k h) hls
       · obtain rfl : k = (i + j) / 2 := by omega
         exact hls
     refine wpc_region <| wpl_q (q_pure rfl) rfl ?_
     refine wpl_q (q_addN (b := 1) rfl rfl zz1) rfl ?_
     refine wpl_q (q_pure rfl) rfl <| wpl_nil <| ex_block ?_
     refine ex_again ⟨((i + j) / 2 + 1, j), ⟨zz12, zz12, by first | exact hi2 | (intro k h1 h2; exact hlt k zz12 h2), by first | exact hi3 | (intro k h1 h2; exact hge k zz12 h2)⟩⟩ ?_ ?_ ?_
     ·
      exact zz9
     ·
      exact fun w h => by first | exact h | exact h.sub SubC.h SubC.h | exact h.sub zz8 zz8
     ·
      (show (j) - ((i + j) / 2 + 1) < j - i); omega
    ·
     have hls : ¬ xs.getD ((i + j) / 2) 0 < s := of_decide_eq_false hc27
     have hge : ∀ k, (i + j) / 2 ≤ k → k < xs.length → ¬ xs.getD k 0 < s := fun k h1 h2 h3 => by
       rcases Nat.lt_or_ge ((i + j) / 2) k with h | h
       · exact hls (UInt64.lt_trans (hsort k h2 _ h) h3)
       · obtain rfl : k = (i + j) / 2 := by omega
         exact hls h3
     refine wpc_region <| wpl_q (q_pure rfl) rfl <| wpl_q (q_pure rfl) rfl <| wpl_nil <| ex_block ?_
     refine ex_again ⟨(i, (i + j) / 2), ⟨zz12, zz12, by first | exact hi2 | (intro k h1 h2; exact hlt k zz12 h2), by first | exact hi3 | (intro k h1 h2; exact hge k zz12 h2)⟩⟩ ?_ ?_ ?_
     ·
      exact zz9
     ·
      exact fun w h => by first | exact h | exact h.sub SubC.h SubC.h | exact h.sub zz8 zz8
     ·
      (show ((i + j) / 2) - (i) < j - i); omega
   ·
    simp only [decide_eq_false_iff_not] at hc15
    obtain rfl : i = j := by omega
    have hsm := sr_mem hsort hi2 hi3
    refine wpc_exit ?_
    refine ex_then_exit ?_
    refine ex_then_exit ?_
    refine ex_block_hit ?_
    refine ex_then <| wpc_seq <| wpc_region <| wpl_q (q_pure rfl) rfl <| wpl_q (q_pure rfl) rfl <| wpl_q (q_pure rfl) rfl <| wpl_q (q_pure rfl) rfl <| wpl_q (q_pure rfl) rfl ?_
    refine wpl_bool2 35 34 rfl rfl (fun hb35 => ?_) (fun hb35 => ?_)
    ·
     have hil : i < xs.length := by have := of_decide_eq_true hb35; omega
     refine wpl_on rfl rfl <| wpl_q (q_pure rfl) rfl <| wpl_on rfl rfl <| wpl_q (q_pure rfl) rfl <| wpl_on rfl rfl ?_
     refine wpl_q (q_idxW1 Tryd.underlying22 Tryd.ti23 rfl rfl zz3 zz1) rfl ?_
     refine wpl_on rfl rfl ?_
     refine wpl_q (q_ldW Tryd.underlying23 rfl rfl (fun w h => h.seen_old hav) (by first | exact v64s_get zz6 | rfl)) rfl ?_
     refine wpl_on rfl rfl <| wpl_q (q_pure rfl) rfl <| wpl_on rfl rfl <| wpl_q (q64_eql rfl rfl) rfl <| wpl_on rfl rfl <| wpl_q (q_pure rfl) rfl ?_
     refine wpl_bool2 42 41 rfl rfl (fun hb42 => ?_) (fun hb42 => ?_)
     ·
      have he : xs.getD i 0 = s := of_decide_eq_true hb42
      refine wpl_off rfl rfl rfl rfl <| wpl_off rfl rfl rfl rfl <| wpl_off rfl rfl rfl rfl <| wpl_off rfl rfl rfl rfl <| wpl_off rfl rfl rfl rfl <| wpl_off rfl rfl rfl rfl <| wpl_off rfl rfl rfl rfl <| wpl_off rfl rfl rfl rfl <| wpl_off rfl rfl rfl rfl <| wpl_on rfl rfl <| wpl_q (q_pure rfl) rfl <| wpl_q (q_pure rfl) rfl ?_
      refine wpl_q (q_pure rfl) rfl <| wpl_q (q_pure rfl) rfl <| wpl_nil <| ex_then <| wpc_ret ?_
      refine ret2 (.inl rfl) rfl rfl rfl ?_
      exact fun w h => ⟨i, hi1, by dsimp only; rw [decide_eq_decide.2 hsm]; first | (rw [decide_eq_true (show i < xs.length ∧ xs.getD i 0 = s from ⟨hil, he⟩)]; done) | (rw [decide_eq_false (show ¬ (i < xs.length ∧ xs.getD i 0 = s) from fun q => hil q.1)]; done) | (rw [decide_eq_false (show ¬ (i < xs.length ∧ xs.getD i 0 = s) from fun q => he q.2)]; done), h.below, h.made .nil .nil⟩
     ·
      have he : ¬ xs.getD i 0 = s := of_decide_eq_false hb42
      refine wpl_on rfl rfl <| wpl_q (q_pure rfl) rfl <| wpl_on rfl rfl <| wpl_q (q_pure rfl) rfl <| wpl_on rfl rfl ?_
      refine wpl_q (q_idxW1 Tryd.underlying22 Tryd.ti23 rfl rfl zz3 zz1) rfl ?_
      refine wpl_on rfl rfl ?_
      refine wpl_q (q_ldW Tryd.underlying23 rfl rfl (fun w h => h.seen_old hav) (by first | exact v64s_get zz6 | rfl)) rfl ?_
      refine wpl_on rfl rfl ?_
      refine wpl_t (t_pur (v := .bool false) Tryd.hb53 rfl fun w h => isNaN2 _ w) rfl (fun b47 => ?_)
      refine wpl_on rfl rfl <| wpl_q (q_pure rfl) rfl <| wpl_off rfl rfl rfl rfl <| wpl_off rfl rfl rfl rfl <| wpl_on rfl rfl <| wpl_q (q_pure rfl) rfl <| wpl_on rfl rfl <| wpl_q (q_pure rfl) rfl <| wpl_q (q_pure rfl) rfl <| wpl_q (q_pure rfl) rfl <| wpl_q (q_pure rfl) rfl <| wpl_nil ?_
      refine ex_then <| wpc_ret ?_
      refine ret2 (.inl rfl) rfl rfl rfl ?_
      exact fun w h => ⟨i, hi1, by dsimp only; rw [decide_eq_decide.2 hsm]; first | (rw [decide_eq_true (show i < xs.length ∧ xs.getD i 0 = s from ⟨hil, he⟩)]; done) | (rw [decide_eq_false (show ¬ (i < xs.length ∧ xs.getD i 0 = s) from fun q => hil q.1)]; done) | (rw [decide_eq_false (show ¬ (i < xs.length ∧ xs.getD i 0 = s) from fun q => he q.2)]; done), h.below, h.made .nil .nil⟩
    ·
     have hil : ¬ i < xs.length := by have := of_decide_eq_false hb35; omega
     refine wpl_off rfl rfl rfl rfl <| wpl_off rfl rfl rfl rfl <| wpl_off rfl rfl rfl rfl <| wpl_off rfl rfl rfl rfl <| wpl_off rfl rfl rfl rfl <| wpl_off rfl rfl rfl rfl <| wpl_off rfl rfl rfl rfl <| wpl_off rfl rfl rfl rfl <| wpl_off rfl rfl rfl rfl <| wpl_off rfl rfl rfl rfl <| wpl_off rfl rfl rfl rfl <| wpl_off rfl rfl rfl rfl ?_
     refine wpl_off rfl rfl rfl rfl <| wpl_off rfl rfl rfl rfl <| wpl_off rfl rfl rfl rfl <| wpl_off rfl rfl rfl rfl <| wpl_off rfl rfl rfl rfl <| wpl_q (q_pure rfl) rfl <| wpl_q (q_pure rfl) rfl <| wpl_q (q_pure rfl) rfl <| wpl_nil <| ex_then <| wpc_ret ?_
     refine ret2 (.inl rfl) rfl rfl rfl ?_
     exact fun w h => ⟨i, hi1, by dsimp only; rw [decide_eq_decide.2 hsm]; first | (rw [decide_eq_true (show i < xs.length ∧ xs.getD i 0 = s from ⟨hil, he⟩)]; done) | (rw [decide_eq_false (show ¬ (i < xs.length ∧ xs.getD i 0 = s) from fun q => hil q.1)]; done) | (rw [decide_eq_false (show ¬ (i < xs.length ∧ xs.getD i 0 = s) from fun q => he q.2)]; done), h.below, h.made .nil .nil⟩
end Go.Proofs.YtgnablliekgbgaaDoor
namespace Go.Proofs.YtgnablliekgbgaaDoor
open Go Go.PL Go.RowKit
theorem eq8_41 : Eq8 Tryd.prog 41 16 := eqc_array Tryd.underlying41 Tryd.ti41 Tryd.ti5 rfl (eqc_int Tryd.underlying5 Tryd.ti5)
theorem same_step64 (xs ys : List UInt64) (i : Nat) (h : xs.take i = ys.take i) (hx : i < xs.length) (hy : i < ys.length) (e : xs.getD i 0 = ys.getD i 0) : xs.take (i + 1) = ys.take (i + 1) := by
  rw [List.take_add_one, List.take_add_one, h, List.getElem?_eq_getElem hx, List.getElem?_eq_getElem hy]
  rw [getD64 hx, getD64 hy] at e
  rw [e]
theorem same_stepS (xs ys : List (List UInt8)) (i : Nat) (h : xs.take i = ys.take i) (hx : i < xs.length) (hy : i < ys.length) (e : xs.getD i [] = ys.getD i []) : xs.take (i + 1) = ys.take (i + 1) := by
  rw [List.take_add_one, List.take_add_one, h, List.getElem?_eq_getElem hx, List.getElem?_eq_getElem hy]
  rw [List.getD_eq_getElem?_getD, List.getElem?_eq_getElem hx, List.getD_eq_getElem?_getD, List.getElem?_eq_getElem hy] at e
  have e : xs[i] = ys[i] := e
  rw [e]
theorem sameNumbers (av : Value) (xs : List UInt64) (bv : Value) (ys : List UInt64) (w : World) (hav : Seen w.cell? av xs.length 1 (v64s xs)) (hbv : Seen w.cell? bv ys.length 1 (v64s ys))  :
    Calls Tryd.prog 69 [av, bv].toArray w (Pur w (.bool (decide (xs = ys)))) := by
  have sav := hav.sv
  have lav := sav.le
  simp only [maxLen] at lav
  have sbv := hbv.sv
  have lbv := sbv.le
  simp only [maxLen] at lbv
  refine enter (m := 26) (R := Mem w [] [] []) Tryd.func69 rfl rfl (Nat.le_of_ble_eq_true rfl) (Mem.start w) ?_
  refine wpc_seq <| wpc_region <| wpl_q (q_pure rfl) rfl <| wpl_nil <| ex_then <| wpc_seq <| wpc_seq <| wpc_region <| wpl_q (q_pure rfl) rfl ?_
  refine wpl_q (q_lenW Tryd.underlying22 rfl zz3) rfl ?_
  refine wpl_q (q_pure rfl) rfl ?_
  refine wpl_q (q_lenW Tryd.underlying22 rfl zz3) rfl ?_
  refine wpl_q (q_pure rfl) rfl <| wpl_nil <| ex_then ?_
  refine wpc_cond rfl (fun hc10 => ?_) (fun hc10 => ?_)
  ·
   simp only [decide_eq_true_eq, bne_iff_ne, ne_eq] at hc10
   have hne : xs ≠ ys := fun e => hc10 (by rw [e])
   refine wpc_seq <| wpc_region <| wpl_q (q_pure rfl) rfl <| wpl_nil <| ex_then <| wpc_ret ?_
   refine ex_then_ret ?_
   refine ret1 (.inl rfl) rfl rfl ?_
   exact fun w h => ⟨by simp [hne], h.below⟩
  ·
   simp only [bne_eq_false_iff_eq] at hc10
   have hl : xs.length = ys.length := by omega
   refine wpc_skip <| ex_then <| wpc_seq <| wpc_seq <| wpc_region <| wpl_q (q_pure rfl) rfl <| wpl_nil <| ex_then <| wpc_block ?_
   refine wpc_loopc (ι := { x : Nat // (x ≤ xs.length) ∧ (xs.take x = ys.take x) }) [(0, _), (1, _)] (fun x Lc => (5, .int .i64 ((x.1 : Nat) : Int)) :: Lc) (fun x => Mem w [] [] []) (fun x => xs.length - x.1) ⟨0, ⟨Nat.zero_le _, rfl⟩⟩ zz9 ?_ ?_
   ·
    exact fun w h => h
   ·
    rintro ⟨i, ⟨hi0, hi1⟩⟩; try dsimp only
    have hi0 : i ≤ xs.length := hi0; have hi1 : xs.take i = ys.take i := hi1
    refine wpc_seq <| wpc_seq <| wpc_region <| wpl_q (q_pure rfl) rfl <| wpl_q (q_pure rfl) rfl ?_
    refine wpl_q (q_lenW Tryd.underlying22 rfl zz3) rfl ?_
    refine wpl_q (q_pure rfl) rfl <| wpl_nil <| ex_then ?_
    refine wpc_cond rfl (fun hc14 => ?_) (fun hc14 => ?_)
    ·
     try simp only [decide_eq_true_eq, decide_eq_false_iff_not, Bool.and_eq_true, Bool.or_eq_true, beq_iff_eq, bne_iff_ne, ne_eq, Bool.not_eq_true', Bool.not_eq_false', Decidable.not_not] at hc14
     refine wpc_skip <| ex_then <| wpc_seq <| wpc_block <| wpc_seq ?_
     refine wpc_draw 9 zz7 (fun _ h => h.drew) ?_
     refine wpd_p 0 rfl zz7 trivial (q_pure rfl) rfl sk0 ?_
     refine wpd_p 1 rfl zz7 trivial (q_pure rfl) rfl sk0 ?_
     refine wpd_p 2 rfl zz7 trivial (q_idxW1 Tryd.underlying22 Tryd.ti23 rfl rfl zz3 zz1) rfl sk0 ?_
     refine wpd_q 3 rfl zz7 trivial (q_ldW Tryd.underlying23 rfl rfl (fun w h => zz15) (by first | exact v64s_get zz6 | rfl)) rfl (fun _ h => h) ?_
     refine wpd_p 4 rfl zz7 trivial (q_pure rfl) rfl sk0 ?_
     refine wpd_p 5 rfl zz7 trivial (q_pure rfl) rfl sk0 ?_
     refine wpd_p 6 rfl zz7 trivial (q_idxW1 Tryd.underlying22 Tryd.ti23 rfl rfl zz3 zz1) rfl sk0 ?_
     refine wpd_q 7 rfl zz7 trivial (q_ldW Tryd.underlying23 rfl rfl (fun w h => zz15) (by first | exact v64s_get zz6 | rfl)) rfl (fun _ h => h) ?_
     refine wpd_p 8 rfl zz7 trivial (q64_neq rfl rfl) rfl sk0 ?_
     refine wpd_done zz7 ?_
     refine ex_then ?_
     refine wpc_cond rfl (fun hc25 => ?_) (fun hc25 => ?_)
     ·
      have hee : ¬ xs.getD i 0 = ys.getD i 0 := by simpa using hc25
      have hne : xs ≠ ys := fun e => hee (by rw [e])
      refine wpc_seq <| wpc_region <| wpl_q (q_pure rfl) rfl <| wpl_nil <| ex_then <| wpc_ret ?_
      refine ex_block_ret ?_
      refine ex_then_ret ?_
      refine ex_then_ret ?_
      refine ex_block_ret ?_
      refine ex_then_ret ?_
      refine ret1 (.inl rfl) rfl rfl ?_
      exact fun w h => ⟨by simp [hne], h.below⟩
     ·
      have hee : xs.getD i 0 = ys.getD i 0 := by simpa using hc25
      refine wpc_skip <| ex_block <| ex_then <| wpc_region <| wpl_q (q_pure rfl) rfl ?_
      refine wpl_q (q_addN (b := 1) rfl rfl zz1) rfl ?_
      refine wpl_q (q_pure rfl) rfl <| wpl_nil ?_
      refine ex_again ⟨i + 1, ⟨by show i + 1 ≤ xs.length; omega, same_step64 xs ys i hi1 zz12 zz12 hee⟩⟩ ?_ ?_ ?_
      ·
       exact zz9
      ·
       exact fun w h => by first | exact h | exact h.sub SubC.h SubC.h | exact h.sub zz8 zz8
      ·
       (show xs.length - (i + 1) < xs.length - i); omega
    ·
     simp only [decide_eq_false_iff_not] at hc14
     obtain rfl : i = xs.length := by omega
     have heq : xs = ys := by rw [List.take_length, hl, List.take_length] at hi1; exact hi1
     refine wpc_exit ?_
     refine ex_then_exit ?_
     refine ex_then_exit ?_
     refine ex_block_hit ?_
     refine ex_then <| wpc_seq <| wpc_region <| wpl_q (q_pure rfl) rfl <| wpl_nil <| ex_then <| wpc_ret ?_
     refine ret1 (.inl rfl) rfl rfl ?_
     exact fun w h => ⟨by simp [heq], h.below⟩
theorem sameShorts (av : Value) (xs : List (List UInt8)) (bv : Value) (ys : List (List UInt8)) (w : World) (hav : Seen w.cell? av xs.length 16 (v8s xs.flatten)) (hlxs : ∀ x ∈ xs, x.length = 16) (hbv : Seen w.cell? bv ys.length 16 (v8s ys.flatten)) (hlys : ∀ x ∈ ys, x.length = 16)  :
    Calls Tryd.prog 90 [av, bv].toArray w (Pur w (.bool (decide (xs = ys)))) := by
  have sav := hav.sv
  have lav := sav.le
  simp only [maxLen] at lav
  have sbv := hbv.sv
  have lbv := sbv.le
  simp only [maxLen] at lbv
  refine enter (m := 26) (R := Mem w [] [] []) Tryd.func90 rfl rfl (Nat.le_of_ble_eq_true rfl) (Mem.start w) ?_
  refine wpc_seq <| wpc_region <| wpl_q (q_pure rfl) rfl <| wpl_nil <| ex_then <| wpc_seq <| wpc_seq <| wpc_region <| wpl_q (q_pure rfl) rfl ?_
  refine wpl_q (q_lenW Tryd.underlying28 rfl zz3) rfl ?_
  refine wpl_q (q_pure rfl) rfl ?_
  refine wpl_q (q_lenW Tryd.underlying28 rfl zz3) rfl ?_
  refine wpl_q (q_pure rfl) rfl <| wpl_nil <| ex_then ?_
  refine wpc_cond rfl (fun hc10 => ?_) (fun hc10 => ?_)
  ·
   simp only [decide_eq_true_eq, bne_iff_ne, ne_eq] at hc10
   have hne : xs ≠ ys := fun e => hc10 (by rw [e])
   refine wpc_seq <| wpc_region <| wpl_q (q_pure rfl) rfl <| wpl_nil <| ex_then <| wpc_ret ?_
   refine ex_then_ret ?_
   refine ret1 (.inl rfl) rfl rfl ?_
   exact fun w h => ⟨by simp [hne], h.below⟩
  ·
   simp only [bne_eq_false_iff_eq] at hc10
   have hl : xs.length = ys.length := by omega
   refine wpc_skip <| ex_then <| wpc_seq <| wpc_seq <| wpc_region <| wpl_q (q_pure rfl) rfl <| wpl_nil <| ex_then <| wpc_block ?_
   refine wpc_loopc (ι := { x : Nat // (x ≤ xs.length) ∧ (xs.take x = ys.take x) }) [(0, _), (1, _)] (fun x Lc => (5, .int .i64 ((x.1 : Nat) : Int)) :: Lc) (fun x => Mem w [] [] []) (fun x => xs.length - x.1) ⟨0, ⟨Nat.zero_le _, rfl⟩⟩ zz9 ?_ ?_
   ·
    exact fun w h => h
   ·
    rintro ⟨i, ⟨hi0, hi1⟩⟩; try dsimp only
    have hi0 : i ≤ xs.length := hi0; have hi1 : xs.take i = ys.take i := hi1
    refine wpc_seq <| wpc_seq <| wpc_region <| wpl_q (q_pure rfl) rfl <| wpl_q (q_pure rfl) rfl ?_
    refine wpl_q (q_lenW Tryd.underlying28 rfl zz3) rfl ?_
    refine wpl_q (q_pure rfl) rfl <| wpl_nil <| ex_then ?_
    refine wpc_cond rfl (fun hc14 => ?_) (fun hc14 => ?_)
    ·
     simp only [decide_eq_true_eq] at hc14
     have g1 := getD_mem_len hlxs (i := i) zz12
     have g2 := getD_mem_len hlys (i := i) zz12
     refine wpc_skip <| ex_then <| wpc_seq <| wpc_block <| wpc_seq ?_
     refine wpc_draw 9 zz7 (fun _ h => h.drew) ?_
     refine wpd_p 0 rfl zz7 trivial (q_pure rfl) rfl sk0 ?_
     refine wpd_p 1 rfl zz7 trivial (q_pure rfl) rfl sk0 ?_
     refine wpd_p 2 rfl zz7 trivial (q_idxW Tryd.underlying28 Tryd.ti41 rfl rfl zz3 zz1) rfl sk0 ?_
     refine wpd_q 3 rfl zz7 trivial (q_ldWN Tryd.underlying41 rfl Tryd.ti41 rfl (fun w h => zz15) (v8s (xs.getD i [])) (part8 hlxs zz12) ((v8s_length _).trans g1)) rfl (fun _ h => h) ?_
     refine wpd_p 4 rfl zz7 trivial (q_pure rfl) rfl sk0 ?_
     refine wpd_p 5 rfl zz7 trivial (q_pure rfl) rfl sk0 ?_
     refine wpd_p 6 rfl zz7 trivial (q_idxW Tryd.underlying28 Tryd.ti41 rfl rfl zz3 zz1) rfl sk0 ?_
     refine wpd_q 7 rfl zz7 trivial (q_ldWN Tryd.underlying41 rfl Tryd.ti41 rfl (fun w h => zz15) (v8s (ys.getD i [])) (part8 hlys zz12) ((v8s_length _).trans g2)) rfl (fun _ h => h) ?_
     refine wpd_p 8 rfl zz7 trivial (q_ne8 eq8_41 zz7 rfl rfl (by first | (first | with_reducible assumption | exact L16.h) | simp) (by first | (first | with_reducible assumption | exact L16.h) | simp)) rfl sk0 ?_
     refine wpd_done zz7 ?_
     refine ex_then ?_
     refine wpc_cond rfl (fun hc25 => ?_) (fun hc25 => ?_)
     ·
      have hee : ¬ xs.getD i [] = ys.getD i [] := by simpa using hc25
      have hne : xs ≠ ys := fun e => hee (by rw [e])
      refine wpc_seq <| wpc_region <| wpl_q (q_pure rfl) rfl <| wpl_nil <| ex_then <| wpc_ret ?_
      refine ex_block_ret ?_
      refine ex_then_ret ?_
      refine ex_then_ret ?_
      refine ex_block_ret ?_
      refine ex_then_ret ?_
      refine ret1 (.inl rfl) rfl rfl ?_
      exact fun w h => ⟨by simp [hne], h.below⟩
     ·
      have hee : xs.getD i [] = ys.getD i [] := by simpa using hc25
      refine wpc_skip <| ex_block <| ex_then <| wpc_region <| wpl_q (q_pure rfl) rfl ?_
      refine wpl_q (q_addN (b := 1) rfl rfl zz1) rfl ?_
      refine wpl_q (q_pure rfl) rfl <| wpl_nil ?_
      refine ex_again ⟨i + 1, ⟨by show i + 1 ≤ xs.length; omega, same_stepS xs ys i hi1 zz12 zz12 hee⟩⟩ ?_ ?_ ?_
      ·
       exact zz9
      ·
       exact fun w h => by first | exact h | exact h.sub SubC.h SubC.h | exact h.sub zz8 zz8
      ·
       (show xs.length - (i + 1) < xs.length - i); omega
    ·
     simp only [decide_eq_false_iff_not] at hc14
     obtain rfl : i = xs.length := by omega
     have heq : xs = ys := by rw [List.take_length, hl, List.take_length] at hi1; exact hi1
     refine wpc_exit ?_
     refine ex_then_exit ?_
     refine ex_then_exit ?_
     refine ex_block_hit ?_
     refine ex_then <| wpc_seq <| wpc_region <| wpl_q (q_pure rfl) rfl <| wpl_nil <| ex_then <| wpc_ret ?_
     refine ret1 (.inl rfl) rfl rfl ?_
     exact fun w h => ⟨by simp [heq], h.below⟩
end Go.Proofs.YtgnablliekgbgaaDoor
namespace Go.Proofs.YtgnablliekgbgaaDoor
open Go Go.PL Go.RowKit
theorem eqWin : EqC Tryd.prog 2 27 true 2 (fun cs => cs.length = 2 ∧ (IntCell .i64 ((cs.drop 0).take 1) ∧ (IntCell .i64 ((cs.drop 1).take 1) ∧ True))) := by
  refine eqc_struct Tryd.underlying27 Tryd.ti27 zz7 ?_
  refine EqFs.cons (sz := 1) (W := IntCell .i64) zz7 rfl (eqc_int Tryd.underlying2 Tryd.ti2) ?_
  refine EqFs.cons (sz := 1) (W := IntCell .i64) zz7 rfl (eqc_int Tryd.underlying2 Tryd.ti2) ?_
  exact EqFs.nil _
def wnL (a b : Int) : List Value := [.int .i64 a, .int .i64 b]
theorem wnL_inj {a b c d : Int} (h : wnL a b = wnL c d) : a = c ∧ b = d := by
  unfold wnL at h
  obtain ⟨h1, h2⟩ := List.cons.inj h
  obtain ⟨h3, _⟩ := List.cons.inj h2
  exact ⟨(Value.int.inj h1).2, (Value.int.inj h3).2⟩
theorem q_eqWin {n : Cx} {R : World → Prop} {L : Slots} {t' : TypeId} {x y : Operand} {a b c d : Int} (hx : ev L x = some (.agg (wnL a b).toArray)) (hy : ev L y = some (.agg (wnL c d).toArray)) : QOp Tryd.prog n R L (.binOp .eql 27 x y t') (.bool (decide (a = c ∧ b = d))) :=
  q_eqA eqWin zz19 zz7 hx hy ⟨rfl, ⟨_, rfl⟩, ⟨_, rfl⟩, trivial⟩ ⟨rfl, ⟨_, rfl⟩, ⟨_, rfl⟩, trivial⟩ _ (by
    rw [decide_eq_true_eq]; exact ⟨fun e => by rw [e.1, e.2], wnL_inj⟩)
theorem sameSig (ix1 : Int) (cv1 pv1 : Value) (chs1 ps1 : List (List UInt8)) (ix2 : Int) (cv2 pv2 : Value) (chs2 ps2 : List (List UInt8)) (w : World) (hcv1 : Seen w.cell? cv1 chs1.length 16 (v8s chs1.flatten)) (hlc1 : ∀ x ∈ chs1, x.length = 16) (hpv1 : Seen w.cell? pv1 ps1.length 16 (v8s ps1.flatten)) (hlp1 : ∀ x ∈ ps1, x.length = 16) (hcv2 : Seen w.cell? cv2 chs2.length 16 (v8s chs2.flatten)) (hlc2 : ∀ x ∈ chs2, x.length = 16) (hpv2 : Seen w.cell? pv2 ps2.length 16 (v8s ps2.flatten)) (hlp2 : ∀ x ∈ ps2, x.length = 16)  :
    Calls Tryd.prog 70 [.agg #[.int .i64 ix1, cv1, pv1], .agg #[.int .i64 ix2, cv2, pv2]].toArray w (Pur w (.bool (decide (ix1 = ix2 ∧ chs1 = chs2 ∧ ps1 = ps2)))) := by
  haveI : OneC [.int .i64 ix1, cv1, pv1] := OneC.cons rfl (OneC.cons (SV.one hcv1.sv) (OneC.cons (SV.one hpv1.sv) oneC_nil))
  haveI : OneC [.int .i64 ix2, cv2, pv2] := OneC.cons rfl (OneC.cons (SV.one hcv2.sv) (OneC.cons (SV.one hpv2.sv) oneC_nil))
  refine enter (m := 24) (R := Mem w [] [] []) Tryd.func70 rfl rfl (Nat.le_of_ble_eq_true rfl) (Mem.start w) ?_
  refine wpc_seq <| wpc_region ?_
  refine wpl_t (t_box rfl [.int .i64 ix1, cv1, pv1] rfl) rfl (fun b2 => ?_)
  refine wpl_t (t_box rfl [.int .i64 ix2, cv2, pv2] rfl) rfl (fun b3 => ?_)
  refine wpl_q (q_pure rfl) rfl <| wpl_nil <| ex_then <| wpc_seq <| wpc_region <| wpl_q (q_field Tryd.underlying30 rfl Tryd.ti3 rfl rfl _ rfl) rfl ?_
  refine wpl_q (q_ld Tryd.underlying3 rfl rfl zz23) rfl ?_
  refine wpl_q (q_field Tryd.underlying30 rfl Tryd.ti3 rfl rfl _ rfl) rfl ?_
  refine wpl_q (q_ld Tryd.underlying3 rfl rfl zz23) rfl ?_
  refine wpl_q (q_pure rfl) rfl <| wpl_q (q_pure rfl) rfl ?_
  refine wpl_bool2 10 9 rfl rfl (fun hb10 => ?_) (fun hb10 => ?_)
  ·
   have e1 : ix1 = ix2 := by simpa using hb10
   refine wpl_on rfl rfl <| wpl_q (q_field Tryd.underlying30 rfl Tryd.ti28 rfl rfl _ rfl) rfl <| wpl_on rfl rfl <| wpl_q (q_ld Tryd.underlying28 rfl rfl rfl) rfl <| wpl_on rfl rfl <| wpl_q (q_field Tryd.underlying30 rfl Tryd.ti28 rfl rfl _ rfl) rfl <| wpl_on rfl rfl <| wpl_q (q_ld Tryd.underlying28 rfl rfl rfl) rfl <| wpl_on rfl rfl ?_
   refine wpl_t (t_pur Tryd.hb90 rfl fun w h => sameShorts cv1 chs1 cv2 chs2 w (h.seen_old hcv1) hlc1 (h.seen_old hcv2) hlc2) rfl (fun b15 => ?_)
   refine wpl_q (q_pure rfl) rfl <| wpl_q (q_pure rfl) rfl ?_
   refine wpl_bool2 17 15 rfl rfl (fun hb17 => ?_) (fun hb17 => ?_)
   ·
    have e2 : chs1 = chs2 := by simpa using hb17
    refine wpl_on rfl rfl <| wpl_q (q_field Tryd.underlying30 rfl Tryd.ti28 rfl rfl _ rfl) rfl <| wpl_on rfl rfl <| wpl_q (q_ld Tryd.underlying28 rfl rfl rfl) rfl <| wpl_on rfl rfl <| wpl_q (q_field Tryd.underlying30 rfl Tryd.ti28 rfl rfl _ rfl) rfl <| wpl_on rfl rfl <| wpl_q (q_ld Tryd.underlying28 rfl rfl rfl) rfl <| wpl_on rfl rfl ?_
    refine wpl_t (t_pur Tryd.hb90 rfl fun w h => sameShorts pv1 ps1 pv2 ps2 w (h.seen_old hpv1) hlp1 (h.seen_old hpv2) hlp2) rfl (fun b22 => ?_)
    refine wpl_q (q_pure rfl) rfl <| wpl_q (q_pure rfl) rfl <| wpl_nil <| ex_then <| wpc_ret ?_
    refine ret1 (.inl rfl) rfl rfl ?_
    exact fun w h => ⟨congrArg (fun b => Ending.returned (Value.bool b)) zz30, h.below⟩
   ·
    have e2 : ¬ chs1 = chs2 := by simpa using hb17
    refine wpl_off rfl rfl rfl rfl <| wpl_off rfl rfl rfl rfl <| wpl_off rfl rfl rfl rfl <| wpl_off rfl rfl rfl rfl <| wpl_off rfl rfl rfl rfl <| wpl_q (q_pure rfl) rfl <| wpl_q (q_pure rfl) rfl <| wpl_nil <| ex_then <| wpc_ret ?_
    refine ret1 (.inl rfl) rfl rfl ?_
    exact fun w h => ⟨congrArg (fun b => Ending.returned (Value.bool b)) zz30, h.below⟩
  ·
   have e1 : ¬ ix1 = ix2 := by simpa using hb10
   refine wpl_off rfl rfl rfl rfl <| wpl_off rfl rfl rfl rfl <| wpl_off rfl rfl rfl rfl <| wpl_off rfl rfl rfl rfl <| wpl_off rfl rfl rfl rfl <| wpl_q (q_pure rfl) rfl <| wpl_q (q_pure rfl) rfl <| wpl_off rfl rfl rfl rfl <| wpl_off rfl rfl rfl rfl <| wpl_off rfl rfl rfl rfl <| wpl_off rfl rfl rfl rfl <| wpl_off rfl rfl rfl rfl ?_
   refine wpl_q (q_pure rfl) rfl <| wpl_q (q_pure rfl) rfl <| wpl_nil <| ex_then <| wpc_ret ?_
   refine ret1 (.inl rfl) rfl rfl ?_
   exact fun w h => ⟨congrArg (fun b => Ending.returned (Value.bool b)) zz30, h.below⟩
theorem refRvSame (a : Rv) (b : Rv) (w : World) (hla : a.seen w.cell?) (hlb : b.seen w.cell?)  :
    Calls Tryd.prog 43 [.agg a.c.toArray, .agg b.c.toArray].toArray w (Pur w (.bool (decide (a.eqv b)))) := by
  haveI := hla.svs.one
  haveI := hlb.svs.one
  refine enter (m := 38) (R := Mem w [] [] []) Tryd.func43 rfl rfl (Nat.le_of_ble_eq_true rfl) (Mem.start w) ?_
  refine wpc_seq <| wpc_region ?_
  refine wpl_t (t_box rfl a.c rfl) rfl (fun b2 => ?_)
  refine wpl_t (t_box rfl b.c rfl) rfl (fun b3 => ?_)
  refine wpl_q (q_pure rfl) rfl <| wpl_nil <| ex_then <| wpc_seq <| wpc_region <| wpl_q (q_field Tryd.underlying32 rfl Tryd.ti9 rfl rfl _ rfl) rfl <| wpl_q (q_ld Tryd.underlying9 rfl rfl (show a.c[0]? = some (str a.nm) from rfl)) rfl <| wpl_q (q_field Tryd.underlying32 rfl Tryd.ti9 rfl rfl _ rfl) rfl <| wpl_q (q_ld Tryd.underlying9 rfl rfl (show b.c[0]? = some (str b.nm) from rfl)) rfl ?_
  refine wpl_q (q_strEq Tryd.underlying9 rfl rfl zz7) rfl ?_
  refine wpl_q (q_pure rfl) rfl ?_
  refine wpl_bool2 10 9 rfl rfl (fun hb10 => ?_) (fun hb10 => ?_)
  ·
   have e1 : a.nm = b.nm := by simpa using hb10
   refine wpl_on rfl rfl <| wpl_q (q_field Tryd.underlying32 rfl Tryd.ti23 rfl rfl _ rfl) rfl <| wpl_on rfl rfl <| wpl_q (q_ld Tryd.underlying23 rfl rfl (show a.c[1]? = some (.int .u64 (a.no.toNat : Int)) from rfl)) rfl <| wpl_on rfl rfl <| wpl_q (q_field Tryd.underlying32 rfl Tryd.ti23 rfl rfl _ rfl) rfl <| wpl_on rfl rfl <| wpl_q (q_ld Tryd.underlying23 rfl rfl (show b.c[1]? = some (.int .u64 (b.no.toNat : Int)) from rfl)) rfl <| wpl_on rfl rfl <| wpl_q (q64_eql rfl rfl) rfl <| wpl_q (q_pure rfl) rfl <| wpl_q (q_pure rfl) rfl ?_
   refine wpl_bool2 17 15 rfl rfl (fun hb17 => ?_) (fun hb17 => ?_)
   ·
    have e2 : a.no = b.no := by simpa using hb17
    refine wpl_on rfl rfl <| wpl_q (q_field Tryd.underlying32 rfl Tryd.ti27 rfl rfl _ rfl) rfl <| wpl_on rfl rfl <| wpl_q (q_ldP Tryd.underlying27 rfl Tryd.ti27 rfl (wnL a.fr a.tt) rfl rfl) rfl <| wpl_on rfl rfl <| wpl_q (q_field Tryd.underlying32 rfl Tryd.ti27 rfl rfl _ rfl) rfl <| wpl_on rfl rfl <| wpl_q (q_ldP Tryd.underlying27 rfl Tryd.ti27 rfl (wnL b.fr b.tt) rfl rfl) rfl <| wpl_on rfl rfl <| wpl_q (q_eqWin rfl rfl) rfl <| wpl_q (q_pure rfl) rfl <| wpl_q (q_pure rfl) rfl ?_
    refine wpl_bool2 24 22 rfl rfl (fun hb24 => ?_) (fun hb24 => ?_)
    ·
     have e3 : (a.fr = b.fr ∧ a.tt = b.tt) := by simpa using hb24
     refine wpl_on rfl rfl <| wpl_q (q_field Tryd.underlying32 rfl Tryd.ti22 rfl rfl _ rfl) rfl <| wpl_on rfl rfl <| wpl_q (q_ld Tryd.underlying22 rfl rfl (show a.c[4]? = some (a.sv) from rfl)) rfl <| wpl_on rfl rfl <| wpl_q (q_field Tryd.underlying32 rfl Tryd.ti22 rfl rfl _ rfl) rfl <| wpl_on rfl rfl <| wpl_q (q_ld Tryd.underlying22 rfl rfl (show b.c[4]? = some (b.sv) from rfl)) rfl <| wpl_on rfl rfl ?_
     refine wpl_t (t_pur Tryd.hb69 rfl fun w h => sameNumbers a.sv a.ss b.sv b.ss w (h.seen_old hla.s) (h.seen_old hlb.s)) rfl (fun b29 => ?_)
     refine wpl_q (q_pure rfl) rfl <| wpl_q (q_pure rfl) rfl ?_
     refine wpl_bool2 31 29 rfl rfl (fun hb31 => ?_) (fun hb31 => ?_)
     ·
      have e4 : a.ss = b.ss := by simpa using hb31
      refine wpl_on rfl rfl <| wpl_q (q_field Tryd.underlying32 rfl Tryd.ti30 rfl rfl _ rfl) rfl <| wpl_on rfl rfl <| wpl_q (q_ldP Tryd.underlying30 rfl Tryd.ti30 rfl a.sig rfl rfl) rfl <| wpl_on rfl rfl <| wpl_q (q_field Tryd.underlying32 rfl Tryd.ti30 rfl rfl _ rfl) rfl <| wpl_on rfl rfl <| wpl_q (q_ldP Tryd.underlying30 rfl Tryd.ti30 rfl b.sig rfl rfl) rfl <| wpl_on rfl rfl ?_
      refine wpl_t (t_pur Tryd.hb70 rfl fun w h => sameSig a.ix a.cv a.pv a.chs a.ps b.ix b.cv b.pv b.chs b.ps w (h.seen_old hla.c) hla.lc (h.seen_old hla.p) hla.lp (h.seen_old hlb.c) hlb.lc (h.seen_old hlb.p) hlb.lp) rfl (fun b36 => ?_)
      refine wpl_q (q_pure rfl) rfl <| wpl_q (q_pure rfl) rfl <| wpl_nil <| ex_then <| wpc_ret ?_
      refine ret1 (.inl rfl) rfl rfl ?_
      exact fun w h => ⟨congrArg (fun b => Ending.returned (Value.bool b)) zz18, h.below⟩
     ·
      have e4 : ¬ a.ss = b.ss := by simpa using hb31
      refine wpl_off rfl rfl rfl rfl <| wpl_off rfl rfl rfl rfl <| wpl_off rfl rfl rfl rfl <| wpl_off rfl rfl rfl rfl <| wpl_off rfl rfl rfl rfl <| wpl_q (q_pure rfl) rfl <| wpl_q (q_pure rfl) rfl <| wpl_nil <| ex_then <| wpc_ret ?_
      refine ret1 (.inl rfl) rfl rfl ?_
      exact fun w h => ⟨congrArg (fun b => Ending.returned (Value.bool b)) zz18, h.below⟩
    ·
     have e3 : ¬ (a.fr = b.fr ∧ a.tt = b.tt) := by simpa using hb24
     refine wpl_off rfl rfl rfl rfl <| wpl_off rfl rfl rfl rfl <| wpl_off rfl rfl rfl rfl <| wpl_off rfl rfl rfl rfl <| wpl_off rfl rfl rfl rfl <| wpl_q (q_pure rfl) rfl <| wpl_q (q_pure rfl) rfl <| wpl_off rfl rfl rfl rfl <| wpl_off rfl rfl rfl rfl <| wpl_off rfl rfl rfl rfl <| wpl_off rfl rfl rfl rfl <| wpl_off rfl rfl rfl rfl ?_
     refine wpl_q (q_pure rfl) rfl <| wpl_q (q_pure rfl) rfl <| wpl_nil <| ex_then <| wpc_ret ?_
     refine ret1 (.inl rfl) rfl rfl ?_
     exact fun w h => ⟨congrArg (fun b => Ending.returned (Value.bool b)) zz18, h.below⟩
   ·
    have e2 : ¬ a.no = b.no := by simpa using hb17
    refine wpl_off rfl rfl rfl rfl <| wpl_off rfl rfl rfl rfl <| wpl_off rfl rfl rfl rfl <| wpl_off rfl rfl rfl rfl <| wpl_off rfl rfl rfl rfl <| wpl_q (q_pure rfl) rfl <| wpl_q (q_pure rfl) rfl <| wpl_off rfl rfl rfl rfl <| wpl_off rfl rfl rfl rfl <| wpl_off rfl rfl rfl rfl <| wpl_off rfl rfl rfl rfl <| wpl_off rfl rfl rfl rfl ?_
    refine wpl_q (q_pure rfl) rfl <| wpl_q (q_pure rfl) rfl <| wpl_off rfl rfl rfl rfl <| wpl_off rfl rfl rfl rfl <| wpl_off rfl rfl rfl rfl <| wpl_off rfl rfl rfl rfl <| wpl_off rfl rfl rfl rfl <| wpl_q (q_pure rfl) rfl <| wpl_q (q_pure rfl) rfl <| wpl_nil <| ex_then <| wpc_ret ?_
    refine ret1 (.inl rfl) rfl rfl ?_
    exact fun w h => ⟨congrArg (fun b => Ending.returned (Value.bool b)) zz18, h.below⟩
  ·
   have e1 : ¬ a.nm = b.nm := by simpa using hb10
   refine wpl_off rfl rfl rfl rfl <| wpl_off rfl rfl rfl rfl <| wpl_off rfl rfl rfl rfl <| wpl_off rfl rfl rfl rfl <| wpl_off rfl rfl rfl rfl <| wpl_q (q_pure rfl) rfl <| wpl_q (q_pure rfl) rfl <| wpl_off rfl rfl rfl rfl <| wpl_off rfl rfl rfl rfl <| wpl_off rfl rfl rfl rfl <| wpl_off rfl rfl rfl rfl <| wpl_off rfl rfl rfl rfl ?_
   refine wpl_q (q_pure rfl) rfl <| wpl_q (q_pure rfl) rfl <| wpl_off rfl rfl rfl rfl <| wpl_off rfl rfl rfl rfl <| wpl_off rfl rfl rfl rfl <| wpl_off rfl rfl rfl rfl <| wpl_off rfl rfl rfl rfl <| wpl_q (q_pure rfl) rfl <| wpl_q (q_pure rfl) rfl <| wpl_off rfl rfl rfl rfl <| wpl_off rfl rfl rfl rfl <| wpl_off rfl rfl rfl rfl ?_
   refine wpl_off rfl rfl rfl rfl <| wpl_off rfl rfl rfl rfl <| wpl_q (q_pure rfl) rfl <| wpl_q (q_pure rfl) rfl <| wpl_nil <| ex_then <| wpc_ret ?_
   refine ret1 (.inl rfl) rfl rfl ?_
   exact fun w h => ⟨congrArg (fun b => Ending.returned (Value.bool b)) zz18, h.below⟩
end Go.Proofs.YtgnablliekgbgaaDoor
namespace Go.Proofs.YtgnablliekgbgaaDoor
open Go Go.PL Go.RowKit
theorem cl_nil {a : Option Addr} {cap : Nat} {sz : Nat} {n : Nat} {cs : List Value} {r : Rd} (h : Seen r (.slice a n cap) n sz cs) (hn : a.isNone = true) : n = 0 := by
  obtain ⟨a', cap', e, h1, h2, h3⟩ := h.sv
  simp only [Value.slice.injEq] at e
  obtain ⟨rfl, _, rfl⟩ := e
  have := h3 (by simpa using hn)
  omega
theorem clone640 (a : Option Addr) (cap : Nat) (l : List UInt64) (w : World) (hav : Seen w.cell? (.slice a l.length cap) l.length 1 (v64s l)) (hl : l.length ≤ 1000) :
    Calls Tryd.prog 59 [.slice a l.length cap].toArray w (GivesP w (fun v => SV v l.length) (fun v => v) (fun v => [.row v l.length 23 1 (v64s l)]) (fun _ => [])) := by
  have sav := hav.sv
  refine enter (m := 8) (R := Mem w [] [] []) Tryd.func59 rfl rfl (Nat.le_of_ble_eq_true rfl) (Mem.start w) ?_
  refine wpc_seq <| wpc_region <| wpl_q (q_pure rfl) rfl <| wpl_nil <| ex_then <| wpc_seq <| wpc_seq <| wpc_region <| wpl_q (q_pure rfl) rfl ?_
  refine wpl_q (q_slNil Tryd.underlying22 rfl rfl zz7) rfl ?_
  refine wpl_nil <| ex_then ?_
  refine wpc_cond rfl (fun hc4 => ?_) (fun hc4 => ?_)
  ·
   have h0 := cl_nil hav hc4
   have hx0 := List.eq_nil_of_length_eq_zero h0
   subst hx0
   refine wpc_seq <| wpc_region <| wpl_q (q_pure rfl) rfl <| wpl_nil <| ex_then <| wpc_ret ?_
   refine ex_then_ret ?_
   refine ret1 (.inl rfl) rfl rfl ?_
   exact fun w h => ⟨.slice none 0 0, SV.nil, rfl, h.below, (h.nilRow 23 1).made zz8 .nil⟩
  ·
   refine wpc_skip <| ex_then <| wpc_seq <| wpc_region ?_
   refine wpl_tp (t_bs0W Tryd.underlying22 Tryd.ti23) rfl (fun b5 p5 => ?_)
   refine wpl_q (q_pure rfl) rfl ?_
   refine wpl_tp (t_ap0 Tryd.underlying22 Tryd.ti23 rfl zz19 rfl rfl (fun w h => h.seen_old hav) (v64s_one _) zz1 zz1) rfl (fun b7 p7 => ?_)
   refine wpl_q (q_pure rfl) rfl <| wpl_nil <| ex_then <| wpc_ret ?_
   refine ret1 (.inl rfl) rfl rfl ?_
   exact fun w h => ⟨b7, p7, rfl, h.below, h.made SubC.h .nil⟩
theorem cloneS0 (a : Option Addr) (cap : Nat) (l : List (List UInt8)) (w : World) (hav : Seen w.cell? (.slice a l.length cap) l.length 16 (v8s l.flatten)) (hll : ∀ x ∈ l, x.length = 16) (hl : l.length ≤ 1000) :
    Calls Tryd.prog 60 [.slice a l.length cap].toArray w (GivesP w (fun v => SV v l.length) (fun v => v) (fun v => [.row v l.length 41 16 (v8s l.flatten)]) (fun _ => [])) := by
  have sav := hav.sv
  refine enter (m := 8) (R := Mem w [] [] []) Tryd.func60 rfl rfl (Nat.le_of_ble_eq_true rfl) (Mem.start w) ?_
  refine wpc_seq <| wpc_region <| wpl_q (q_pure rfl) rfl <| wpl_nil <| ex_then <| wpc_seq <| wpc_seq <| wpc_region <| wpl_q (q_pure rfl) rfl ?_
  refine wpl_q (q_slNil Tryd.underlying28 rfl rfl zz7) rfl ?_
  refine wpl_nil <| ex_then ?_
  refine wpc_cond rfl (fun hc4 => ?_) (fun hc4 => ?_)
  ·
   have h0 := cl_nil hav hc4
   have hx0 := List.eq_nil_of_length_eq_zero h0
   subst hx0
   refine wpc_seq <| wpc_region <| wpl_q (q_pure rfl) rfl <| wpl_nil <| ex_then <| wpc_ret ?_
   refine ex_then_ret ?_
   refine ret1 (.inl rfl) rfl rfl ?_
   exact fun w h => ⟨.slice none 0 0, SV.nil, rfl, h.below, (h.nilRow 41 16).made zz8 .nil⟩
  ·
   refine wpc_skip <| ex_then <| wpc_seq <| wpc_region ?_
   refine wpl_tp (t_bs0W Tryd.underlying28 Tryd.ti41) rfl (fun b5 p5 => ?_)
   refine wpl_q (q_pure rfl) rfl ?_
   refine wpl_tp (t_ap0 Tryd.underlying28 Tryd.ti41 rfl zz19 rfl rfl (fun w h => h.seen_old hav) (v8s_one _) zz1 zz1) rfl (fun b7 p7 => ?_)
   refine wpl_q (q_pure rfl) rfl <| wpl_nil <| ex_then <| wpc_ret ?_
   refine ret1 (.inl rfl) rfl rfl ?_
   exact fun w h => ⟨b7, p7, rfl, h.below, h.made SubC.h .nil⟩
theorem clone64 (v : Value) (l : List UInt64) (w : World) (h : Seen w.cell? v l.length 1 (v64s l)) (hl : l.length ≤ 1000) : Calls Tryd.prog 59 [v].toArray w (GivesP w (fun v => SV v l.length) (fun v => v) (fun v => [.row v l.length 23 1 (v64s l)]) (fun _ => [])) := by
  obtain ⟨a, cap, rfl, _⟩ := h.sv
  exact clone640 a cap l w h hl
theorem cloneS (v : Value) (l : List (List UInt8)) (w : World) (h : Seen w.cell? v l.length 16 (v8s l.flatten)) (hll : ∀ x ∈ l, x.length = 16) (hl : l.length ≤ 1000) : Calls Tryd.prog 60 [v].toArray w (GivesP w (fun v => SV v l.length) (fun v => v) (fun v => [.row v l.length 41 16 (v8s l.flatten)]) (fun _ => [])) := by
  obtain ⟨a, cap, rfl, _⟩ := h.sv
  exact cloneS0 a cap l w h hll hl
def Rv.ws (l : Rv) (v : Value) : Rv := { l with sv := v }
def Rv.wc (l : Rv) (v : Value) : Rv := { l with cv := v }
def Rv.wp (l : Rv) (v : Value) : Rv := { l with pv := v }
abbrev V3 := Value × Value × Value
abbrev Rv.re (l : Rv) (x : V3) : Rv := ((l.ws x.1).wc x.2.1).wp x.2.2
theorem Rv.s_s (l : Rv) (v : Value) : l.c.set 4 v = (l.ws v).c := rfl
theorem Rv.s_c (l : Rv) (v : Value) : l.c.set 6 v = (l.wc v).c := rfl
theorem Rv.s_p (l : Rv) (v : Value) : l.c.set 7 v = (l.wp v).c := rfl
end Go.Proofs.YtgnablliekgbgaaDoor
namespace Go.Proofs.YtgnablliekgbgaaDoor
open Go Go.PL Go.RowKit
theorem built_sig {v1 v2 : Value} {n1 n2 : Nat} (h1 : SV v1 n1) (h2 : SV v2 n2) (idx : Int) : Tryd.prog.built 30 [(0, .int .i64 idx), (1, v1), (2, v2)] = some #[.int .i64 idx, v1, v2] := by
  obtain ⟨a1, c1, rfl, _⟩ := h1
  obtain ⟨a2, c2, rfl, _⟩ := h2
  kernel_rfl
theorem sig_one {v1 v2 : Value} {n1 n2 : Nat} (h1 : SV v1 n1) (h2 : SV v2 n2) (idx : Int) : ∀ u ∈ [Value.int .i64 idx, v1, v2], u.oneCell' = true := by
  intro u hu
  simp only [List.mem_cons, List.not_mem_nil, or_false] at hu
  rcases hu with rfl | rfl | rfl
  · rfl
  · exact h1.one
  · exact h2.one
theorem twinSig (idx : Int) (cv pv : Value) (chs ps : List (List UInt8)) (w : World) (hcv : Seen w.cell? cv chs.length 16 (v8s chs.flatten)) (hlchs : ∀ x ∈ chs, x.length = 16) (hpv : Seen w.cell? pv ps.length 16 (v8s ps.flatten)) (hlps : ∀ x ∈ ps, x.length = 16) (hnc : chs.length ≤ 200) (hnp : ps.length ≤ 200) :
    Calls Tryd.prog 20 [.agg #[.int .i64 idx, cv, pv]].toArray w (GivesP w (fun x : Value × Value => SV x.1 chs.length ∧ SV x.2 ps.length) (fun x : Value × Value => .agg #[.int .i64 idx, x.1, x.2]) (fun x => [.row x.1 chs.length 41 16 (v8s chs.flatten), .row x.2 ps.length 41 16 (v8s ps.flatten)]) (fun _ => [])) := by
  have scv := hcv.sv
  have spv := hpv.sv
  have lcv := scv.le
  have lpv := spv.le
  simp only [maxLen] at lcv lpv
  haveI : OneC [.int .i64 idx, cv, pv] := OneC.cons rfl (OneC.cons (SV.one scv) (OneC.cons (SV.one spv) oneC_nil))
  refine enter (m := 14) (R := Mem w [] [] []) Tryd.func20 rfl rfl (Nat.le_of_ble_eq_true rfl) (Mem.start w) ?_
  refine wpc_seq <| wpc_region ?_
  refine wpl_t (t_box rfl [.int .i64 idx, cv, pv] rfl) rfl (fun b1 => ?_)
  refine wpl_t (t_alloc Tryd.ti30 [.int .i64 0, .slice none 0 0, .slice none 0 0] rfl) rfl (fun b2 => ?_)
  refine wpl_nil <| ex_then <| wpc_seq ?_
  refine wpc_draw 11 zz7 (fun _ h => h.drew) ?_
  refine wpd_p 0 rfl zz7 trivial (q_field Tryd.underlying30 rfl Tryd.ti3 rfl rfl _ rfl) rfl sk0 ?_
  refine wpd_q 1 rfl zz7 trivial (q_ld Tryd.underlying3 rfl rfl zz23) rfl (fun _ h => h) ?_
  refine wpd_p 3 rfl zz7 trivial (q_field Tryd.underlying30 rfl Tryd.ti28 rfl rfl _ rfl) rfl sk0 ?_
  refine wpd_q 4 rfl zz7 trivial (q_ld Tryd.underlying28 rfl rfl rfl) rfl (fun _ h => h) ?_
  refine wpd_p 7 rfl zz7 trivial (q_field Tryd.underlying30 rfl Tryd.ti28 rfl rfl _ rfl) rfl sk0 ?_
  refine wpd_q 8 rfl zz7 trivial (q_ld Tryd.underlying28 rfl rfl rfl) rfl (fun _ h => h) ?_
  refine wpd_two 2 6 zz7 ?_ ?_
  ·
   refine wpa_tp 2 rfl trivial (t_bs0W Tryd.underlying28 Tryd.ti41) rfl (fun _ => (fun w h => .inr (h.sub SubC.h SubC.h))) (fun b5 p5 => ?_)
   refine wpd_two 5 6 zz7 ?_ ?_
   ·
    refine wpa_tp 5 rfl trivial (t_ap0 Tryd.underlying28 Tryd.ti41 rfl zz19 rfl rfl (fun w h => h.seen_old hcv) (v8s_one _) zz1 zz1) rfl (fun _ => (fun w h => .inr (h.sub SubC.h SubC.h))) (fun b8 p8 => ?_)
    refine wpd_tp 6 rfl zz7 trivial (t_bs0W Tryd.underlying28 Tryd.ti41) rfl (fun _ => (fun w h => .inr (h.sub SubC.h SubC.h))) (fun b9 p9 => ?_)
    refine wpd_tp 9 rfl zz7 trivial (t_ap0 Tryd.underlying28 Tryd.ti41 rfl zz19 rfl rfl (fun w h => h.seen_old hpv) (v8s_one _) zz1 zz1) rfl (fun _ => (fun w h => .inr (h.sub SubC.h SubC.h))) (fun b12 p12 => ?_)
    refine wpd_p 10 rfl zz7 trivial (q_build (cs := [.int .i64 idx, b8, b12]) rfl (built_sig p8 p12 idx)) rfl (fun w h => .inr (h.sub SubC.h SubC.h)) ?_
    refine wpd_t0 11 rfl zz7 trivial (t_stA Tryd.ti30 rfl rfl rfl (sig_one p8 p12 idx) rfl) (fun _ => skk rfl) (fun _ => ?_)
    refine wpd_done zz7 ?_
    refine ex_then <| wpc_ret ?_
    refine retv1 (.inl rfl) rfl (rv_agg Tryd.underlying30 rfl Tryd.ti30 rfl (fun w h => h.atB) rfl) ?_
    exact fun w h => ⟨(b8, b12), ⟨p8, p12⟩, rfl, h.below, zz43⟩
   ·
    refine wpa_tp 6 rfl trivial (t_bs0W Tryd.underlying28 Tryd.ti41) rfl (fun _ => (fun w h => .inr (h.sub SubC.h SubC.h))) (fun b9 p9 => ?_)
    refine wpd_tp 5 rfl zz7 trivial (t_ap0 Tryd.underlying28 Tryd.ti41 rfl zz19 rfl rfl (fun w h => h.seen_old hcv) (v8s_one _) zz1 zz1) rfl (fun _ => (fun w h => .inr (h.sub SubC.h SubC.h))) (fun b8 p8 => ?_)
    refine wpd_tp 9 rfl zz7 trivial (t_ap0 Tryd.underlying28 Tryd.ti41 rfl zz19 rfl rfl (fun w h => h.seen_old hpv) (v8s_one _) zz1 zz1) rfl (fun _ => (fun w h => .inr (h.sub SubC.h SubC.h))) (fun b12 p12 => ?_)
    refine wpd_p 10 rfl zz7 trivial (q_build (cs := [.int .i64 idx, b8, b12]) rfl (built_sig p8 p12 idx)) rfl (fun w h => .inr (h.sub SubC.h SubC.h)) ?_
    refine wpd_t0 11 rfl zz7 trivial (t_stA Tryd.ti30 rfl rfl rfl (sig_one p8 p12 idx) rfl) (fun _ => skk rfl) (fun _ => ?_)
    refine wpd_done zz7 ?_
    refine ex_then <| wpc_ret ?_
    refine retv1 (.inl rfl) rfl (rv_agg Tryd.underlying30 rfl Tryd.ti30 rfl (fun w h => h.atB) rfl) ?_
    exact fun w h => ⟨(b8, b12), ⟨p8, p12⟩, rfl, h.below, zz43⟩
  ·
   refine wpa_tp 6 rfl trivial (t_bs0W Tryd.underlying28 Tryd.ti41) rfl (fun _ => (fun w h => .inr (h.sub SubC.h SubC.h))) (fun b9 p9 => ?_)
   refine wpd_tp 2 rfl zz7 trivial (t_bs0W Tryd.underlying28 Tryd.ti41) rfl (fun _ => (fun w h => .inr (h.sub SubC.h SubC.h))) (fun b5 p5 => ?_)
   refine wpd_tp 5 rfl zz7 trivial (t_ap0 Tryd.underlying28 Tryd.ti41 rfl zz19 rfl rfl (fun w h => h.seen_old hcv) (v8s_one _) zz1 zz1) rfl (fun _ => (fun w h => .inr (h.sub SubC.h SubC.h))) (fun b8 p8 => ?_)
   refine wpd_tp 9 rfl zz7 trivial (t_ap0 Tryd.underlying28 Tryd.ti41 rfl zz19 rfl rfl (fun w h => h.seen_old hpv) (v8s_one _) zz1 zz1) rfl (fun _ => (fun w h => .inr (h.sub SubC.h SubC.h))) (fun b12 p12 => ?_)
   refine wpd_p 10 rfl zz7 trivial (q_build (cs := [.int .i64 idx, b8, b12]) rfl (built_sig p8 p12 idx)) rfl (fun w h => .inr (h.sub SubC.h SubC.h)) ?_
   refine wpd_t0 11 rfl zz7 trivial (t_stA Tryd.ti30 rfl rfl rfl (sig_one p8 p12 idx) rfl) (fun _ => skk rfl) (fun _ => ?_)
   refine wpd_done zz7 ?_
   refine ex_then <| wpc_ret ?_
   refine retv1 (.inl rfl) rfl (rv_agg Tryd.underlying30 rfl Tryd.ti30 rfl (fun w h => h.atB) rfl) ?_
   exact fun w h => ⟨(b8, b12), ⟨p8, p12⟩, rfl, h.below, zz43⟩
theorem refRvTwin (l : Rv) (w : World) (hl : l.seen w.cell?) (hnl : l.nm.length ≤ maxLen) (h5 : l.ss.length ≤ 520) (h6 : l.chs.length ≤ 60) (h7 : l.ps.length ≤ 60) :
    Calls Tryd.prog 13 [.agg l.c.toArray].toArray w (GivesP w (fun x : V3 => SV x.1 l.ss.length ∧ SV x.2.1 l.chs.length ∧ SV x.2.2 l.ps.length) (fun x => .agg (l.re x).c.toArray) (fun x => [.row x.1 l.ss.length 23 1 (v64s l.ss), .row x.2.1 l.chs.length 41 16 (v8s l.chs.flatten), .row x.2.2 l.ps.length 41 16 (v8s l.ps.flatten)]) (fun _ => [])) := by
  haveI := hl.svs.one
  have lss := hl.s.sv.le
  have lcs := hl.c.sv.le
  have lps := hl.p.sv.le
  have sss := hl.s.sv
  have scs := hl.c.sv
  have sps := hl.p.sv
  simp only [maxLen] at lss lcs lps
  refine enter (m := 13) (R := Mem w [] [] []) Tryd.func13 rfl rfl (Nat.le_of_ble_eq_true rfl) (Mem.start w) ?_
  refine wpc_seq <| wpc_region ?_
  refine wpl_t (t_box rfl l.c rfl) rfl (fun b1 => ?_)
  refine wpl_t (t_alloc Tryd.ti32 Rv.z.c rfl) rfl (fun b2 => ?_)
  refine wpl_nil <| ex_then <| wpc_seq <| wpc_region ?_
  refine wpl_tp (t_bs0W Tryd.underlying22 Tryd.ti23) rfl (fun b3 p3 => ?_)
  refine wpl_q (q_field Tryd.underlying32 rfl Tryd.ti22 rfl rfl _ rfl) rfl <| wpl_q (q_ld Tryd.underlying22 rfl rfl (show l.c[4]? = some (l.sv) from rfl)) rfl ?_
  refine wpl_tp (t_ap0 Tryd.underlying22 Tryd.ti23 rfl zz19 rfl rfl (fun w h => h.seen_old hl.s) (v64s_one _) zz1 zz1) rfl (fun b6 p6 => ?_)
  haveI : OneC (l.ws b6).c := Rv.svs.one (l := l.ws b6) ⟨p6, scs, sps⟩
  refine wpl_q (q_field Tryd.underlying32 rfl Tryd.ti22 rfl rfl _ rfl) rfl ?_
  refine wpl_t0 (t_st1 Tryd.ti22 rfl rfl (SV.one p6) (show 4 < 8 from zz19) _ (Rv.s_s _ _)) (fun _ => ?_)
  refine wpl_nil <| ex_then <| wpc_seq <| wpc_region <| wpl_q (q_field Tryd.underlying32 rfl Tryd.ti30 rfl rfl _ rfl) rfl <| wpl_q (q_ldP Tryd.underlying30 rfl Tryd.ti30 rfl l.sig rfl rfl) rfl ?_
  refine wpl_tp (t_callP2 Tryd.hb20 rfl fun w h => twinSig l.ix l.cv l.pv l.chs l.ps w (h.seen_old hl.c) hl.lc (h.seen_old hl.p) hl.lp zz12 zz12) rfl (fun b10 p10 => ?_)
  haveI : OneC (l.re (b6, b10.1, b10.2)).c := Rv.svs.one (l := l.re (b6, b10.1, b10.2)) ⟨p6, p10.1, p10.2⟩
  refine wpl_q (q_field Tryd.underlying32 rfl Tryd.ti30 rfl rfl _ rfl) rfl ?_
  refine wpl_t0 (t_stP Tryd.ti30 rfl rfl zz2 (OneC.cons rfl (OneC.cons (SV.one p10.1) (OneC.cons (SV.one p10.2) oneC_nil))).h (by show 5 + 3 ≤ 8; decide) (l.re (b6, b10.1, b10.2)).c rfl) (fun _ => ?_)
  refine wpl_nil <| ex_then <| wpc_seq <| wpc_region <| wpl_q (q_ldN Tryd.underlying32 rfl Tryd.ti32 rfl LenC.h) rfl ?_
  refine wpl_t0 (t_stA Tryd.ti32 rfl rfl LenC.h OneC.h LenC.h) (fun _ => ?_)
  refine wpl_nil <| ex_then <| wpc_ret ?_
  refine retv1 (.inl rfl) rfl (rv_agg Tryd.underlying32 rfl Tryd.ti32 rfl (fun w h => h.atB) rfl) ?_
  exact fun w h => ⟨(b6, b10.1, b10.2), ⟨p6, p10.1, p10.2⟩, rfl, h.below, h.sel.made (Sub.refl _) .nil⟩
end Go.Proofs.YtgnablliekgbgaaDoor
namespace Go.Proofs.YtgnablliekgbgaaDoor
open Go Go.PL Go.RowKit
theorem rvTwin (l : Rv) (w : World) (hl : l.seen w.cell?) (hnl : l.nm.length ≤ maxLen) (h5 : l.ss.length ≤ 520) (h6 : l.chs.length ≤ 60) (h7 : l.ps.length ≤ 60) :
    Calls Tryd.prog 34 [.agg l.c.toArray].toArray w (GivesP w (fun x : V3 => SV x.1 l.ss.length ∧ SV x.2.1 l.chs.length ∧ SV x.2.2 l.ps.length) (fun x => .agg (l.re x).c.toArray) (fun x => [.row x.1 l.ss.length 23 1 (v64s l.ss), .row x.2.1 l.chs.length 41 16 (v8s l.chs.flatten), .row x.2.2 l.ps.length 41 16 (v8s l.ps.flatten)]) (fun _ => [])) := by
  haveI := hl.svs.one
  have lss := hl.s.sv.le
  have lcs := hl.c.sv.le
  have lps := hl.p.sv.le
  have sss := hl.s.sv
  have scs := hl.c.sv
  have sps := hl.p.sv
  simp only [maxLen] at lss lcs lps
  refine enter (m := 20) (R := Mem w [] [] []) Tryd.func34 rfl rfl (Nat.le_of_ble_eq_true rfl) (Mem.start w) ?_
  refine wpc_seq <| wpc_region ?_
  refine wpl_t (t_box rfl l.c rfl) rfl (fun b1 => ?_)
  refine wpl_t (t_alloc Tryd.ti32 Rv.z.c rfl) rfl (fun b2 => ?_)
  refine wpl_nil <| ex_then <| wpc_seq <| wpc_region <| wpl_q (q_field Tryd.underlying32 rfl Tryd.ti22 rfl rfl _ rfl) rfl <| wpl_q (q_ld Tryd.underlying22 rfl rfl (show l.c[4]? = some (l.sv) from rfl)) rfl ?_
  refine wpl_tp (t_callP1 Tryd.hb59 rfl fun w h => clone64 l.sv l.ss w (h.seen_old hl.s) zz12) rfl (fun b5 p5 => ?_)
  haveI : OneC (l.ws b5).c := Rv.svs.one (l := l.ws b5) ⟨p5, scs, sps⟩
  refine wpl_q (q_field Tryd.underlying32 rfl Tryd.ti22 rfl rfl _ rfl) rfl ?_
  refine wpl_t0 (t_st1 Tryd.ti22 rfl rfl (SV.one p5) (show 4 < 8 from zz19) _ (Rv.s_s _ _)) (fun _ => ?_)
  refine wpl_nil <| ex_then ?_
  refine wpc_cutc ({ x : Value × Value // (SV x.1 l.chs.length) ∧ (SV x.2 l.ps.length) }) [(1, .pointer (some ⟨b1, 0, none⟩)), (2, .pointer (some ⟨b2, 0, none⟩))] (fun x Lc => Lc) (fun x => Mem w [] [.row x.1.1 l.chs.length 41 16 (v8s l.chs.flatten), .row x.1.2 l.ps.length 41 16 (v8s l.ps.flatten), .row b5 l.ss.length 23 1 (v64s l.ss), .blk b2 32 Rv.z.c, .blk b1 32 (l.re (b5, x.1.1, x.1.2)).c] []) ?_ ?_
  ·
   refine wpc_draw 10 zz7 (fun _ h => h.drew) ?_
   refine wpd_p 0 rfl zz7 trivial (q_field Tryd.underlying32 rfl Tryd.ti30 rfl rfl _ rfl) rfl sk0 ?_
   refine wpd_p 1 rfl zz7 trivial (q_field Tryd.underlying30 rfl Tryd.ti28 rfl rfl _ rfl) rfl sk0 ?_
   refine wpd_q 2 rfl zz7 trivial (q_ld Tryd.underlying28 rfl rfl rfl) rfl (fun _ h => h) ?_
   refine wpd_p 4 rfl zz7 trivial (q_field Tryd.underlying32 rfl Tryd.ti30 rfl rfl _ rfl) rfl sk0 ?_
   refine wpd_p 5 rfl zz7 trivial (q_field Tryd.underlying30 rfl Tryd.ti28 rfl rfl _ rfl) rfl sk0 ?_
   refine wpd_q 6 rfl zz7 trivial (q_ld Tryd.underlying28 rfl rfl rfl) rfl (fun _ h => h) ?_
   refine wpd_tp 3 rfl zz7 trivial (t_callP1 Tryd.hb60 rfl fun w h => cloneS l.cv l.chs w (h.seen_old hl.c) hl.lc zz12) rfl (fun _ => (fun w h => .inr (h.sub SubC.h SubC.h))) (fun b10 p10 => ?_)
   refine wpd_p 8 rfl zz7 trivial (q_field Tryd.underlying32 rfl Tryd.ti30 rfl rfl _ rfl) rfl (fun w h => .inr (h.sub SubC.h SubC.h)) ?_
   refine wpd_p 9 rfl zz7 trivial (q_field Tryd.underlying30 rfl Tryd.ti28 rfl rfl _ rfl) rfl (fun w h => .inr (h.sub SubC.h SubC.h)) ?_
   refine wpd_tp 7 rfl zz7 trivial (t_callP1 Tryd.hb60 rfl fun w h => cloneS l.pv l.ps w (h.seen_old hl.p) hl.lp zz12) rfl (fun _ => (fun w h => .inr (h.sub SubC.h SubC.h))) (fun b14 p14 => ?_)
   refine wpd_t0 10 rfl zz7 trivial (t_st1 Tryd.ti28 rfl rfl (by first | exact SV.one p10 | exact SV.one p14) (by first | (show 6 < 8; decide) | (show 7 < 8; decide)) _ (by first | exact Rv.s_c _ _ | exact Rv.s_p _ _)) (fun _ => skk rfl) (fun _ => ?_)
   refine wpd_p 11 rfl zz7 trivial (q_field Tryd.underlying32 rfl Tryd.ti30 rfl rfl _ rfl) rfl (skk rfl) ?_
   refine wpd_p 12 rfl zz7 trivial (q_field Tryd.underlying30 rfl Tryd.ti28 rfl rfl _ rfl) rfl (skk rfl) ?_
   refine wpd_t0 13 rfl zz7 trivial (t_st1 Tryd.ti28 rfl rfl (by first | exact SV.one p10 | exact SV.one p14) (by first | (show 6 < 8; decide) | (show 7 < 8; decide)) _ (by first | exact Rv.s_c _ _ | exact Rv.s_p _ _)) (fun _ => skk rfl) (fun _ => ?_)
   refine wpd_done zz7 ?_
   refine ex_mid ⟨(b10, b14), ⟨p10, p14⟩⟩ ?_ ?_
   ·
    exact zz9
   ·
    exact fun w h => by first | exact h.sel | (rw [Rv.wpc] at h; exact h.sel)
  ·
   rintro ⟨⟨c1, c2⟩, ⟨hi0, hi1⟩⟩; try dsimp only
   have hi0 : SV c1 l.chs.length := hi0; have hi1 : SV c2 l.ps.length := hi1
   haveI : OneC (l.re (b5, c1, c2)).c := Rv.svs.one (l := l.re (b5, c1, c2)) ⟨p5, hi0, hi1⟩
   refine wpc_seq <| wpc_region <| wpl_q (q_ldN Tryd.underlying32 rfl Tryd.ti32 rfl LenC.h) rfl ?_
   refine wpl_t0 (t_stA Tryd.ti32 rfl rfl LenC.h OneC.h LenC.h) (fun _ => ?_)
   refine wpl_nil <| ex_then <| wpc_ret ?_
   refine retv1 (.inl rfl) rfl (rv_agg Tryd.underlying32 rfl Tryd.ti32 rfl (fun w h => h.atB) rfl) ?_
   exact fun w h => ⟨(b5, c1, c2), ⟨p5, hi0, hi1⟩, rfl, h.below, h.sel.made (Sub.refl _) .nil⟩
end Go.Proofs.YtgnablliekgbgaaDoor
namespace Go.Proofs.YtgnablliekgbgaaDoor
open Go Go.PL Go.RowKit
theorem revoked (l : Rv) (s : UInt64) (w : World) (hl : l.seen w.cell?) (hnl : l.nm.length ≤ maxLen)  :
    Calls Tryd.prog 9 [.agg l.c.toArray, .int .u64 s.toNat].toArray w (Pur w (.tuple #[.bool (revV l s), .int .i64 (chkR l)])) := by
  haveI := hl.svs.one
  have lss := hl.s.sv.le
  have lcs := hl.c.sv.le
  have lps := hl.p.sv.le
  have sss := hl.s.sv
  have scs := hl.c.sv
  have sps := hl.p.sv
  simp only [maxLen] at lss lcs lps
  refine enter (m := 22) (R := Mem w [] [] []) Tryd.func9 rfl rfl (Nat.le_of_ble_eq_true rfl) (Mem.start w) ?_
  refine wpc_seq <| wpc_region ?_
  refine wpl_t (t_box rfl l.c rfl) rfl (fun b2 => ?_)
  refine wpl_q (q_pure rfl) rfl <| wpl_q (q_pure rfl) rfl <| wpl_nil <| ex_then <| wpc_seq <| wpc_seq <| wpc_region <| wpl_q (q_ldN Tryd.underlying32 rfl Tryd.ti32 rfl LenC.h) rfl ?_
  refine wpl_t (t_pur Tryd.hb10 rfl fun w h => rvCheck l w (hl.old h rfl) hnl) rfl (fun b10 => ?_)
  refine wpl_q (q_pure rfl) rfl <| wpl_nil <| ex_then <| wpc_seq <| wpc_region <| wpl_q (q_pure rfl) rfl <| wpl_q (q_pure rfl) rfl <| wpl_nil <| ex_then ?_
  refine wpc_cond rfl (fun hc12 => ?_) (fun hc12 => ?_)
  ·
   have hk : chkR l ≠ 0 := by simpa using hc12
   refine wpc_seq <| wpc_region <| wpl_q (q_pure rfl) rfl <| wpl_q (q_pure rfl) rfl <| wpl_q (q_pure rfl) rfl <| wpl_nil <| ex_then <| wpc_ret ?_
   refine ex_then_ret ?_
   refine ret2 (.inl rfl) rfl rfl rfl ?_
   exact fun w h => ⟨by rw [show revV l s = false by unfold revV; rw [decide_eq_false hk]; rfl], h.below⟩
  ·
   have hk : chkR l = 0 := by simpa using hc12
   obtain ⟨h5, hin⟩ := chk_inv hk
   have hsort := fun j hj k hk => incF_lt hin j hj k hk
   refine wpc_skip <| ex_then <| wpc_seq <| wpc_region <| wpl_q (q_field Tryd.underlying32 rfl Tryd.ti22 rfl rfl _ rfl) rfl <| wpl_q (q_ld Tryd.underlying22 rfl rfl (show l.c[4]? = some (l.sv) from rfl)) rfl <| wpl_q (q_pure rfl) rfl ?_
   refine wpl_tp (t_callP Tryd.hb28 rfl fun w h => binary l.sv l.ss s w (h.seen_old hl.s) zz12 hsort) rfl (fun b18 p18 => ?_)
   refine wpl_q (q_pure rfl) rfl <| wpl_q (q_pure rfl) rfl <| wpl_q (q_pure rfl) rfl <| wpl_q (q_pure rfl) rfl <| wpl_q (q_pure rfl) rfl <| wpl_nil <| ex_then <| wpc_seq <| wpc_region <| wpl_q (q_pure rfl) rfl <| wpl_q (q_pure rfl) rfl <| wpl_q (q_pure rfl) rfl ?_
   refine wpl_nil <| ex_then <| wpc_ret ?_
   refine ret2 (.inl rfl) rfl rfl rfl ?_
   exact fun w h => ⟨by rw [show revV l s = decide (s ∈ l.ss) by unfold revV; rw [decide_eq_true hk, Bool.true_and], hk]; rfl, h.below⟩
end Go.Proofs.YtgnablliekgbgaaDoor
namespace Go.Proofs.YtgnablliekgbgaaDoor
open Go Go.PL Go.RowKit
inductive Tr where
  | nd (t : UInt8) (bs : List UInt8) (l : List Tr)
inductive HT where
  | nd (t : UInt8) (bv : Value) (bs : List UInt8) (lv : Value) (l : List HT)
mutual
def HT.tr : HT → Tr
  | .nd t _ bs _ l => .nd t bs (trs l)
def trs : List HT → List Tr
  | [] => []
  | x :: l => x.tr :: trs l
end
theorem HT.ind {P : HT → Prop} (h : ∀ t bv bs lv l, (∀ x ∈ l, P x) → P (.nd t bv bs lv l)) : ∀ t, P t
  | .nd t bv bs lv l => h t bv bs lv l (fun x _ => HT.ind h x)
termination_by t => SizeOf.sizeOf t
decreasing_by
  have := List.sizeOf_lt_of_mem ‹x ∈ l›
  simp only [HT.nd.sizeOf_spec]; omega
theorem Tr.ind {P : Tr → Prop} (h : ∀ t bs l, (∀ x ∈ l, P x) → P (.nd t bs l)) : ∀ t, P t
  | .nd t bs l => h t bs l (fun x _ => Tr.ind h x)
termination_by t => SizeOf.sizeOf t
decreasing_by
  have := List.sizeOf_lt_of_mem ‹x ∈ l›
  simp only [Tr.nd.sizeOf_spec]; omega
theorem trs_map : ∀ l : List HT, trs l = l.map HT.tr
  | [] => rfl
  | x :: l => by rw [trs, trs_map l]; rfl
theorem trs_length (l : List HT) : (trs l).length = l.length := by rw [trs_map, List.length_map]
theorem trs_append (a b : List HT) : trs (a ++ b) = trs a ++ trs b := by simp [trs_map]
abbrev nl : Value := .slice none 0 0
def HT.z : HT := .nd 0 nl [] nl []
def Tr.z : Tr := .nd 0 [] []
def HT.tg : HT → UInt8 | .nd t _ _ _ _ => t
def HT.bv : HT → Value | .nd _ v _ _ _ => v
def HT.bs : HT → List UInt8 | .nd _ _ bs _ _ => bs
def HT.lv : HT → Value | .nd _ _ _ v _ => v
def HT.kids : HT → List HT | .nd _ _ _ _ l => l
def HT.c : HT → List Value | .nd t bv _ lv _ => [.int .u8 (t.toNat : Int), bv, lv]
theorem HT.c_length (t : HT) : t.c.length = 3 := by cases t; rfl
instance lenC_ht {t : HT} : LenC t.c 3 := ⟨t.c_length⟩
abbrev hcs (l : List HT) : List Value := (l.map HT.c).flatten
theorem getD_memH {l : List HT} {i : Nat} (h : i < l.length) : l.getD i HT.z ∈ l := by
  rw [List.getD_eq_getElem?_getD, List.getElem?_eq_getElem h]; exact List.getElem_mem h
theorem take_succD {α : Type} (z : α) {l : List α} {i : Nat} (h : i < l.length) : l.take (i + 1) = l.take i ++ [l.getD i z] := by
  rw [List.take_add_one, List.getD_eq_getElem?_getD, List.getElem?_eq_getElem h]; rfl
theorem drop_consD {α : Type} (z : α) {l : List α} {i : Nat} (h : i < l.length) : l.drop i = l.getD i z :: l.drop (i + 1) := by
  rw [List.drop_eq_getElem_cons h, List.getD_eq_getElem?_getD, List.getElem?_eq_getElem h]; rfl
def HT.sv : HT → Prop | .nd _ bv bs lv l => SV bv bs.length ∧ SV lv l.length
theorem HT.sv.one {t : HT} (h : t.sv) : OneC t.c := by
  obtain ⟨tg, bv, bs, lv, l⟩ := t
  exact OneC.cons rfl (OneC.cons h.1.one (OneC.cons h.2.one oneC_nil))
instance oneC_hz : OneC HT.z.c := ⟨by intro u hu; simp only [HT.z, HT.c, List.mem_cons, List.not_mem_nil, or_false] at hu; rcases hu with rfl | rfl | rfl <;> rfl⟩
mutual
def HSeen (r : Rd) : HT → Prop
  | .nd _ bv bs lv l => Seen r bv bs.length 1 (v8s bs) ∧ Seen r lv l.length 3 (hcs l) ∧ HSeenL r l
def HSeenL (r : Rd) : List HT → Prop
  | [] => True
  | x :: l => HSeen r x ∧ HSeenL r l
end
theorem HSeenL_iff {r : Rd} : ∀ {l : List HT}, HSeenL r l ↔ ∀ x ∈ l, HSeen r x
  | [] => by simp [HSeenL]
  | x :: l => by simp [HSeenL, HSeenL_iff (l := l)]
theorem HSeen.mono {r r' : Rd} (hr : ∀ a v, r a = some v → r' a = some v) : ∀ {t : HT}, HSeen r t → HSeen r' t := by
  intro t
  induction t using HT.ind with
  | _ t bv bs lv l ih =>
    rintro ⟨h1, h2, h3⟩
    exact ⟨h1.mono hr, h2.mono hr, HSeenL_iff.2 fun x hx => ih x hx (HSeenL_iff.1 h3 x hx)⟩
theorem HSeen.sv {r : Rd} {t : HT} (h : HSeen r t) : t.sv := by
  obtain ⟨tg, bv, bs, lv, l⟩ := t
  exact ⟨h.1.sv, h.2.1.sv⟩
theorem HSeen.kid {r : Rd} {tg : UInt8} {bv lv : Value} {bs : List UInt8} {l : List HT} (h : HSeen r (.nd tg bv bs lv l)) {i : Nat} (hi : i < l.length) : HSeen r (l.getD i HT.z) := HSeenL_iff.1 h.2.2 _ (getD_memH hi)
def hseen (t : HT) : Fact := ⟨fun r => HSeen r t, fun _ _ hr h => h.mono hr⟩
theorem HSeen.old {w0 w : World} {M : List Ent} {S : List Fact} {t : HT} (hs : HSeen w0.cell? t) (h : Mem w0 [] M S w) : HSeen w.cell? t := hs.mono fun _ _ hc => h.cell_old hc
mutual
def HT.ents : HT → List Ent
  | .nd _ bv bs lv l => .row bv bs.length 5 1 (v8s bs) :: .row lv l.length 61 3 (hcs l) :: entsL l
def entsL : List HT → List Ent
  | [] => []
  | x :: l => x.ents ++ entsL l
end
theorem entsL_append (a b : List HT) : entsL (a ++ b) = entsL a ++ entsL b := by
  induction a with
  | nil => rfl
  | cons x a ih => simp [entsL, ih]
theorem mem_entsL {l : List HT} {x : HT} (hx : x ∈ l) {e : Ent} (he : e ∈ x.ents) : e ∈ entsL l := by
  induction l with
  | nil => cases hx
  | cons y l ih =>
    rw [entsL, List.mem_append]
    rcases List.mem_cons.1 hx with rfl | hx
    · exact .inl he
    · exact .inr (ih hx)
theorem Mem.hseenM {w0 w : World} {Ln : List Nat} {M : List Ent} {S : List Fact} (h : Mem w0 Ln M S w) : ∀ {t : HT}, (∀ e ∈ t.ents, e ∈ M) → HSeen w.cell? t := by
  intro t
  induction t using HT.ind with
  | _ t bv bs lv l ih =>
    intro hm
    refine ⟨h.seen_row (hm _ (List.mem_cons_self ..)), h.seen_row (hm _ (List.mem_cons_of_mem _ (List.mem_cons_self ..))), HSeenL_iff.2 fun x hx => ih x hx fun e he => hm _ ?_⟩
    exact List.mem_cons_of_mem _ (List.mem_cons_of_mem _ (mem_entsL hx he))
class HasT (M : List Ent) (t : HT) : Prop where
  h : ∀ e ∈ t.ents, e ∈ M
instance (priority := 1200) hasT_here {t : HT} {X : List Ent} : HasT (t.ents ++ X) t := ⟨fun e he => List.mem_append_left _ he⟩
instance (priority := 1100) hasT_all {t : HT} : HasT t.ents t := ⟨fun _ he => he⟩
instance (priority := 800) hasT_app {t : HT} {Y X : List Ent} [h : HasT X t] : HasT (Y ++ X) t := ⟨fun e he => List.mem_append_right _ (h.h e he)⟩
instance (priority := 700) hasT_left {t : HT} {Y X : List Ent} [h : HasT Y t] : HasT (Y ++ X) t := ⟨fun e he => List.mem_append_left _ (h.h e he)⟩
instance (priority := 900) hasT_cons {t : HT} {e : Ent} {X : List Ent} [h : HasT X t] : HasT (e :: X) t := ⟨fun _ hk => List.mem_cons_of_mem _ (h.h _ hk)⟩
theorem Mem.hseen {w0 w : World} {Ln : List Nat} {M : List Ent} {S : List Fact} (h : Mem w0 Ln M S w) {t : HT} [ht : HasT M t] : HSeen w.cell? t := Mem.hseenM h ht.h
theorem Mem.hseenF {w0 w : World} {Ln : List Nat} {M : List Ent} {S : List Fact} (h : Mem w0 Ln M S w) {t : HT} (ht : Go.Proofs.YtgnablliekgbgaaDoor.hseen t ∈ S) : HSeen w.cell? t := h.fact ht
def rowFact : Ent → Fact
  | .row v m _ sz xs => Go.PL.seen v m sz xs
  | _ => ⟨fun _ => True, fun _ _ _ _ => trivial⟩
def isRow : Ent → Prop
  | .row _ _ _ _ _ => True
  | _ => False
theorem ents_rows : ∀ (t : HT), ∀ e ∈ t.ents, isRow e := by
  intro t
  induction t using HT.ind with
  | _ t bv bs lv l ih =>
    intro e he
    rcases List.mem_cons.1 he with rfl | he
    · trivial
    · rcases List.mem_cons.1 he with rfl | he
      · trivial
      · have : ∀ m : List HT, (∀ x ∈ m, x ∈ l) → e ∈ entsL m → isRow e := by
          intro m
          induction m with
          | nil => intro _ h; cases h
          | cons y m ih2 =>
            intro hm h
            rw [entsL, List.mem_append] at h
            rcases h with h | h
            · exact ih y (hm y (List.mem_cons_self ..)) e h
            · exact ih2 (fun x hx => hm x (List.mem_cons_of_mem _ hx)) h
        exact this l (fun _ hx => hx) he
theorem Mem.freezeRows {w0 w : World} : ∀ (X : List Ent) {M : List Ent} {S : List Fact}, (∀ e ∈ X, isRow e) → Mem w0 [] (X ++ M) S w → Mem w0 [] M (X.map rowFact ++ S) w
  | [], M, S, _, h => h
  | e :: X, M, S, hr, h => by
    cases e with
    | row v m e sz xs =>
      have h1 := h.freezeRow (M' := X ++ M) .here
      have h2 := Mem.freezeRows X (fun e he => hr e (List.mem_cons_of_mem _ he)) h1
      refine h2.imp fun r hs t ht => hs t ?_
      rw [List.map_cons, List.cons_append] at ht
      rcases List.mem_cons.1 ht with rfl | ht
      · exact List.mem_append_right _ (List.mem_cons_self ..)
      · rcases List.mem_append.1 ht with ht | ht
        · exact List.mem_append_left _ ht
        · exact List.mem_append_right _ (List.mem_cons_of_mem _ ht)
    | blk b t cs => exact (hr _ (List.mem_cons_self ..)).elim
    | obj b o => exact (hr _ (List.mem_cons_self ..)).elim
theorem hseen_rows {r : Rd} : ∀ (t : HT), (∀ e ∈ t.ents, (rowFact e).f r) → HSeen r t := by
  intro t
  induction t using HT.ind with
  | _ t bv bs lv l ih =>
    intro h
    refine ⟨h _ (List.mem_cons_self ..), h _ (List.mem_cons_of_mem _ (List.mem_cons_self ..)), HSeenL_iff.2 fun x hx => ih x hx fun e he => h _ ?_⟩
    exact List.mem_cons_of_mem _ (List.mem_cons_of_mem _ (mem_entsL hx he))
theorem Mem.freezeT {w0 w : World} {M : List Ent} {S : List Fact} {t : HT} (h : Mem w0 [] (t.ents ++ M) S w) : Mem w0 [] M (Go.Proofs.YtgnablliekgbgaaDoor.hseen t :: S) w := by
  refine (Mem.freezeRows t.ents (ents_rows t) h).imp fun r hs f hf => ?_
  rcases List.mem_cons.1 hf with rfl | hf
  · exact hseen_rows t fun e he => hs _ (List.mem_append_left _ (List.mem_map_of_mem he))
  · exact hs _ (List.mem_append_right _ hf)
theorem new_freeze {B : World} {w : World} {t : HT} (h : Mem B [] t.ents [] w) : New B.heap.size [] [Go.Proofs.YtgnablliekgbgaaDoor.hseen t] w := (Mem.freezeT (t := t) (M := []) (by rw [List.append_nil]; exact h)).made .nil (Sub.refl _)
theorem Sub.appR {α : Type} {l M : List α} : ∀ (X : List α), Sub l M → Sub l (X ++ M)
  | [], h => h
  | _ :: X, h => .drop (Sub.appR X h)
instance (priority := 1600) subC_refl {α : Type} {l : List α} : SubC l l := ⟨Sub.refl l⟩
instance (priority := 500) subC_appR {α : Type} {l M X : List α} [s : SubC l M] : SubC l (X ++ M) := ⟨Sub.appR X s.h⟩
section
variable {P : Program} {n : Cx} {L : Slots} {Q : Exit → Act → World → Prop} {w0 : World} {Ln : List Nat} {M : List Ent} {S : List Fact}
theorem t_callE {k : FuncId} {args : Array Operand} {at_ : Array TypeId} {vs : List Value} {ι : Type} {p : ι → Prop} {V : ι → Value} {N : ι → List Ent} (Z : ι → List Ent) (hZ : ∀ x, (N x ++ M).Perm (Z x)) (hb : HasBody P k) (hv : evs L args.toList = some vs)
    (hc : ∀ w, Mem w0 Ln M S w → Calls P k vs.toArray w (GivesP w p V N (fun _ => []))) : TOpP P Q n (Mem w0 Ln M S) L (.call { callee := .value (.func k), args := args, argTypes := at_ }) ι p V (fun x => Mem w0 Ln (Z x) S) :=
  (t_callP hb hv hc).t.rep fun x w h => ⟨x.1, x.2, rfl, h.perm (hZ x.1)⟩
theorem t_callPT {k : FuncId} {args : Array Operand} {at_ : Array TypeId} {vs : List Value} {ι : Type} {p : ι → Prop} {V : ι → Value} {T : ι → Fact} (hb : HasBody P k) (hv : evs L args.toList = some vs)
    (hc : ∀ w, Mem w0 Ln M S w → Calls P k vs.toArray w (GivesP w p V (fun _ => []) (fun x => [T x]))) : TOpP P Q n (Mem w0 Ln M S) L (.call { callee := .value (.func k), args := args, argTypes := at_ }) ι p V (fun x => Mem w0 Ln M (T x :: S)) := t_callP hb hv hc
end
end Go.Proofs.YtgnablliekgbgaaDoor
