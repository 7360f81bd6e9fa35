/- Revocation lists. -/
import Derived.Test.YtgnablliekgbgaaPLL
import Derived.Test.YtgnablliekgbgaaTI
namespace Go.Proofs.Ytgnablliekgbgaa
set_option linter.unusedSimpArgs false
set_option linter.unusedVariables false
open Go Go.PL Go.RowKit

def checkF (ht idx : Int) (nc np : Nat) : Int := if 0 ≤ ht ∧ ht ≤ 4 then (if 0 ≤ idx ∧ idx < ((2 ^ ht.toNat : Nat) : Int) ∧ nc = 35 ∧ (np : Int) = ht then 0 else 12) else 2
theorem check_2 {ht idx : Int} {nc np : Nat} (h : ¬ (0 ≤ ht ∧ ht ≤ 4)) : checkF ht idx nc np = 2 := if_neg h
theorem check_in {m : Nat} {idx : Int} {nc np : Nat} (h : (m : Int) ≤ 4) : checkF m idx nc np = if 0 ≤ idx ∧ idx < ((2 ^ m : Nat) : Int) ∧ nc = 35 ∧ np = m then 0 else 12 := by
  unfold checkF
  rw [if_pos ⟨Int.natCast_nonneg m, h⟩, Int.toNat_natCast]
  simp only [Int.ofNat_inj]
theorem check_12 {m : Nat} {idx : Int} {nc np : Nat} (h : (m : Int) ≤ 4) (hn : ¬ (0 ≤ idx ∧ idx < ((2 ^ m : Nat) : Int) ∧ nc = 35 ∧ np = m)) : checkF m idx nc np = 12 := (check_in h).trans (if_neg hn)
theorem check_0 {m : Nat} {idx : Int} {nc np : Nat} (h : (m : Int) ≤ 4) (hn : 0 ≤ idx ∧ idx < ((2 ^ m : Nat) : Int) ∧ nc = 35 ∧ np = m) : checkF m idx nc np = 0 := (check_in h).trans (if_pos hn)
theorem pow_le16 {m : Nat} (h : m ≤ 4) : 2 ^ m ≤ 16 := Nat.le_trans (Nat.pow_le_pow_right (by decide) h) (by decide)


/-- A revocation list with its handles. -/
structure Rv where
  nm : List UInt8
  no : UInt64
  fr : Int
  tt : Int
  sv : Value
  ss : List UInt64
  ix : Int
  cv : Value
  chs : List (List UInt8)
  pv : Value
  ps : List (List UInt8)
def Rv.c (l : Rv) : List Value := [str l.nm, .int .u64 (l.no.toNat : Int), .int .i64 l.fr, .int .i64 l.tt, l.sv, .int .i64 l.ix, l.cv, l.pv]
def Rv.z : Rv := ⟨[], 0, 0, 0, .slice none 0 0, [], 0, .slice none 0 0, [], .slice none 0 0, []⟩
def Rv.win (l : Rv) : List Value := [.int .i64 l.fr, .int .i64 l.tt]
def Rv.sig (l : Rv) : List Value := [.int .i64 l.ix, l.cv, l.pv]
instance lenC_rv {l : Rv} : LenC l.c 8 := ⟨rfl⟩
instance lenC_rvw {l : Rv} : LenC l.win 2 := ⟨rfl⟩
instance lenC_rvs {l : Rv} : LenC l.sig 3 := ⟨rfl⟩
def Rv.svs (l : Rv) : Prop := SV l.sv l.ss.length ∧ SV l.cv l.chs.length ∧ SV l.pv l.ps.length
theorem Rv.svs.one {l : Rv} (h : l.svs) : OneC l.c := OneC.cons rfl (OneC.cons rfl (OneC.cons rfl (OneC.cons rfl (OneC.cons (SV.one h.1) (OneC.cons rfl (OneC.cons (SV.one h.2.1) (OneC.cons (SV.one h.2.2) oneC_nil)))))))
/-- The lists of a list can be read. -/
structure Rv.seen (r : Rd) (l : Rv) : Prop where
  s : Seen r l.sv l.ss.length 1 (v64s l.ss)
  c : Seen r l.cv l.chs.length 16 (v8s l.chs.flatten)
  lc : ∀ x ∈ l.chs, x.length = 16
  p : Seen r l.pv l.ps.length 16 (v8s l.ps.flatten)
  lp : ∀ x ∈ l.ps, x.length = 16
theorem Rv.seen.mono {r r' : Rd} {l : Rv} (h : l.seen r) (k : ∀ a v, r a = some v → r' a = some v) : l.seen r' := ⟨h.s.mono k, h.c.mono k, h.lc, h.p.mono k, h.lp⟩
theorem Rv.seen.svs {r : Rd} {l : Rv} (h : l.seen r) : l.svs := ⟨h.s.sv, h.c.sv, h.p.sv⟩
theorem Rv.seen.old {l : Rv} {w0 w : World} {Ln : List Nat} {M : List Ent} {S : List Fact} (hs : l.seen w0.cell?) (h : Mem w0 Ln M S w) (hn : Ln = []) : l.seen w.cell? := by
  subst hn
  exact ⟨h.seen_old hs.s, h.seen_old hs.c, hs.lc, h.seen_old hs.p, hs.lp⟩
/-- A byte of a name. -/
def goodB (c : UInt8) : Bool := (decide (97 ≤ c.toNat) && decide (c.toNat ≤ 122)) || (decide (65 ≤ c.toNat) && decide (c.toNat ≤ 90)) || (decide (48 ≤ c.toNat) && decide (c.toNat ≤ 57)) || decide (c.toNat = 45) || decide (c.toNat = 95)
def nameF (xs : List UInt8) : Bool := decide (1 ≤ xs.length) && decide (xs.length ≤ 40) && xs.all goodB
def timeF (t : Int) : Bool := decide (0 ≤ t) && decide (t ≤ 1099511627776)
def winF (a b : Int) : Bool := timeF a && timeF b && decide (a ≤ b)
def sigB (ix : Int) (nc np : Nat) : Bool := decide (ix ≠ 0) || decide (0 < nc) || decide (0 < np)
def gsigB (ix : Int) (nc np : Nat) : Bool := !sigB ix nc np || decide (checkF (np : Int) ix nc np = 0)
/-- Each serial number is greater than the one before, and the first is not 0. -/
def incF (ss : List UInt64) (n : Nat) : Prop := ∀ i, i < n → (if i = 0 then 0 else ss.getD (i - 1) 0) < ss.getD i 0
instance {ss : List UInt64} {n : Nat} : Decidable (incF ss n) := by unfold incF; exact inferInstance
def okA (l : Rv) : Bool := nameF l.nm && winF l.fr l.tt && gsigB l.ix l.chs.length l.ps.length
def okR (l : Rv) : Bool := okA l && decide (incF l.ss l.ss.length)
def chkR (l : Rv) : Int := if 500 < l.ss.length then 4 else if okR l then 0 else 8
def lastN (ss : List UInt64) (n : Nat) : UInt64 := if n = 0 then 0 else ss.getD (n - 1) 0
theorem incF_0 (ss : List UInt64) : incF ss 0 := fun i hi => absurd hi (Nat.not_lt_zero _)
theorem incF_S {ss : List UInt64} {n : Nat} : incF ss (n + 1) ↔ incF ss n ∧ lastN ss n < ss.getD n 0 := by
  constructor
  · intro h; exact ⟨fun i hi => h i (by omega), h n (Nat.lt_succ_self _)⟩
  · rintro ⟨h1, h2⟩ i hi
    rcases Nat.lt_or_ge i n with h3 | h3
    · exact h1 i h3
    · obtain rfl : i = n := by omega
      exact h2
theorem incF_no {ss : List UInt64} {n m : Nat} (h : ¬ incF ss n) (hn : n ≤ m) : ¬ incF ss m := fun k => h fun i hi => k i (by omega)
theorem lastN_S (ss : List UInt64) (n : Nat) : lastN ss (n + 1) = ss.getD n 0 := rfl
theorem incF_lt {ss : List UInt64} {n : Nat} (h : incF ss n) : ∀ j, j < n → ∀ i, i < j → ss.getD i 0 < ss.getD j 0
  | 0, _, i, hi => absurd hi (Nat.not_lt_zero _)
  | j + 1, hj, i, hi => by
    have h1 := h (j + 1) hj
    rw [if_neg (by omega), Nat.add_sub_cancel] at h1
    rcases Nat.lt_or_ge i j with h2 | h2
    · exact UInt64.lt_trans (incF_lt h j (by omega) i h2) h1
    · obtain rfl : i = j := by omega
      exact h1
theorem chk_4 {l : Rv} (h : 500 < l.ss.length) : chkR l = 4 := if_pos h
theorem chk_8 {l : Rv} (h : ¬ 500 < l.ss.length) (k : okR l = false) : chkR l = 8 := (if_neg h).trans (if_neg (by simp [k]))
theorem chk_ok {l : Rv} (h : ¬ 500 < l.ss.length) (k : okR l = true) : chkR l = 0 := (if_neg h).trans (if_pos k)
theorem okR_A {l : Rv} (k : okA l = false) : okR l = false := by unfold okR; rw [k]; rfl
theorem okR_I {l : Rv} (k : ¬ incF l.ss l.ss.length) : okR l = false := by unfold okR; rw [decide_eq_false k, Bool.and_false]
theorem okR_ok {l : Rv} (k : okA l = true) (k2 : incF l.ss l.ss.length) : okR l = true := by unfold okR; rw [k, decide_eq_true k2]; rfl
theorem chk_inv {l : Rv} (h : chkR l = 0) : ¬ 500 < l.ss.length ∧ incF l.ss l.ss.length := by
  unfold chkR at h
  split at h
  · cases h
  · rename_i h1
    split at h
    · rename_i h2
      unfold okR at h2
      rw [Bool.and_eq_true, decide_eq_true_eq] at h2
      exact ⟨h1, h2.2⟩
    · cases h
/-- What Revoked answers. -/
def revE (l : Rv) : Int := chkR l
def revV (l : Rv) (s : UInt64) : Bool := decide (chkR l = 0) && decide (s ∈ l.ss)
/-- Two lists are the same but for their handles. -/
def Rv.eqv (a b : Rv) : Prop := a.nm = b.nm ∧ a.no = b.no ∧ (a.fr = b.fr ∧ a.tt = b.tt) ∧ a.ss = b.ss ∧ (a.ix = b.ix ∧ a.chs = b.chs ∧ a.ps = b.ps)
instance {a b : Rv} : Decidable (a.eqv b) := by unfold Rv.eqv; exact inferInstance
def bigR (l : Rv) : Bool := decide (500 < l.nm.length) || decide (520 < l.ss.length) || (decide (60 < l.chs.length) || decide (60 < l.ps.length))

end Go.Proofs.Ytgnablliekgbgaa
