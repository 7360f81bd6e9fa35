/- What the statement reaches, in order. -/
import Derived.Test.YtgnablliekgbgaaMXPLL
import Derived.Test.YtgnablliekgbgaaMXTI
import Derived.Lib.BufferRead
import Derived.Lib.ConvBytes
import Derived.Laws.IdiomStrings
import Derived.Test.YtgnablliekgbgaaMXPLH
import Derived.Recover
import Derived.Test.YtgnablliekgbgaaMXPLZ
import Derived.WalkKit
import Derived.ProofKit
import Derived.OpenShut
import Derived.ShutString
import Derived.ChangeOld
import Derived.Below
import Derived.SizedLaws
import Derived.Lib.SmallJoins
import Derived.Carry
set_option linter.unusedSimpArgs false
set_option linter.unusedVariables false
set_option maxRecDepth 100000
namespace Go.Proofs.Ytgnablliekgbgaa
open Go Go.PL Go.RowKit
def sgChk (ht idx : Int) (nc np : Nat) : Int := if 0 ≤ ht ∧ ht ≤ 4 then (if 0 ≤ idx ∧ idx < ((2 ^ ht.toNat : Nat) : Int) ∧ nc = 35 ∧ (np : Int) = ht then 0 else 12) else 2
theorem check_2 {ht idx : Int} {nc np : Nat} (h : ¬ (0 ≤ ht ∧ ht ≤ 4)) : sgChk ht idx nc np = 2 := if_neg h
theorem check_in {m : Nat} {idx : Int} {nc np : Nat} (h : (m : Int) ≤ 4) : sgChk m idx nc np = if 0 ≤ idx ∧ idx < ((2 ^ m : Nat) : Int) ∧ nc = 35 ∧ np = m then 0 else 12 := by
  unfold sgChk
  rw [if_pos ⟨Int.natCast_nonneg m, h⟩, Int.toNat_natCast]
  simp only [Int.ofNat_inj]
theorem check_12 {m : Nat} {idx : Int} {nc np : Nat} (h : (m : Int) ≤ 4) (hn : ¬ (0 ≤ idx ∧ idx < ((2 ^ m : Nat) : Int) ∧ nc = 35 ∧ np = m)) : sgChk m idx nc np = 12 := (check_in h).trans (if_neg hn)
theorem check_0 {m : Nat} {idx : Int} {nc np : Nat} (h : (m : Int) ≤ 4) (hn : 0 ≤ idx ∧ idx < ((2 ^ m : Nat) : Int) ∧ nc = 35 ∧ np = m) : sgChk m idx nc np = 0 := (check_in h).trans (if_pos hn)
theorem pow_le16 {m : Nat} (h : m ≤ 4) : 2 ^ m ≤ 16 := Nat.le_trans (Nat.pow_le_pow_right zz18 h) zz18
structure Rv where
  nm : List UInt8
  no : UInt64
  fr : Int
  tt : Int
  sv : Value
  ss : List UInt64
  ix : Int
  cv : Value
  chs : List (List UInt8)
  pv : Value
  ps : List (List UInt8)
def Rv.c (l : Rv) : List Value := [str l.nm, .int .u64 (l.no.toNat : Int), .int .i64 l.fr, .int .i64 l.tt, l.sv, .int .i64 l.ix, l.cv, l.pv]
def Rv.z : Rv := ⟨[], 0, 0, 0, .slice none 0 0, [], 0, .slice none 0 0, [], .slice none 0 0, []⟩
def Rv.win (l : Rv) : List Value := [.int .i64 l.fr, .int .i64 l.tt]
def Rv.sig (l : Rv) : List Value := [.int .i64 l.ix, l.cv, l.pv]
instance lenC_rv {l : Rv} : LenC l.c 8 := ⟨rfl⟩
def Rv.svs (l : Rv) : Prop := SV l.sv l.ss.length ∧ SV l.cv l.chs.length ∧ SV l.pv l.ps.length
theorem Rv.svs.one {l : Rv} (h : l.svs) : OneC l.c := OneC.cons rfl (OneC.cons rfl (OneC.cons rfl (OneC.cons rfl (OneC.cons (SV.one h.1) (OneC.cons rfl (OneC.cons (SV.one h.2.1) (OneC.cons (SV.one h.2.2) oneC_nil)))))))
structure Rv.seen (r : Rd) (l : Rv) : Prop where
  s : Seen r l.sv l.ss.length 1 (v64s l.ss)
  c : Seen r l.cv l.chs.length 16 (v8s l.chs.flatten)
  lc : ∀ x ∈ l.chs, x.length = 16
  p : Seen r l.pv l.ps.length 16 (v8s l.ps.flatten)
  lp : ∀ x ∈ l.ps, x.length = 16
theorem Rv.seen.mono {r r' : Rd} {l : Rv} (h : l.seen r) (k : ∀ a v, r a = some v → r' a = some v) : l.seen r' := ⟨h.s.mono k, h.c.mono k, h.lc, h.p.mono k, h.lp⟩
theorem Rv.seen.svs {r : Rd} {l : Rv} (h : l.seen r) : l.svs := ⟨h.s.sv, h.c.sv, h.p.sv⟩
theorem Rv.seen.old {l : Rv} {w0 w : World} {Ln : List Nat} {M : List Ent} {S : List Fact} (hs : l.seen w0.cell?) (h : Mem w0 Ln M S w) (hn : Ln = []) : l.seen w.cell? := by
  subst hn
  exact ⟨h.seen_old hs.s, h.seen_old hs.c, hs.lc, h.seen_old hs.p, hs.lp⟩
def goodB (c : UInt8) : Bool := (decide (97 ≤ c.toNat) && decide (c.toNat ≤ 122)) || (decide (65 ≤ c.toNat) && decide (c.toNat ≤ 90)) || (decide (48 ≤ c.toNat) && decide (c.toNat ≤ 57)) || decide (c.toNat = 45) || decide (c.toNat = 95)
def nameF (xs : List UInt8) : Bool := decide (1 ≤ xs.length) && decide (xs.length ≤ 40) && xs.all goodB
def timeF (t : Int) : Bool := decide (0 ≤ t) && decide (t ≤ 1099511627776)
def winF (a b : Int) : Bool := timeF a && timeF b && decide (a ≤ b)
def sigB (ix : Int) (nc np : Nat) : Bool := decide (ix ≠ 0) || decide (0 < nc) || decide (0 < np)
def gsigB (ix : Int) (nc np : Nat) : Bool := !sigB ix nc np || decide (sgChk (np : Int) ix nc np = 0)
def incF (ss : List UInt64) (n : Nat) : Prop := ∀ i, i < n → (if i = 0 then 0 else ss.getD (i - 1) 0) < ss.getD i 0
instance {ss : List UInt64} {n : Nat} : Decidable (incF ss n) := by unfold incF; exact inferInstance
def okA (l : Rv) : Bool := nameF l.nm && winF l.fr l.tt && gsigB l.ix l.chs.length l.ps.length
def okR (l : Rv) : Bool := okA l && decide (incF l.ss l.ss.length)
def chkR (l : Rv) : Int := if 500 < l.ss.length then 4 else if okR l then 0 else 8
def lastN (ss : List UInt64) (n : Nat) : UInt64 := if n = 0 then 0 else ss.getD (n - 1) 0
theorem incF_0 (ss : List UInt64) : incF ss 0 := fun i hi => absurd hi (Nat.not_lt_zero _)
theorem incF_S {ss : List UInt64} {n : Nat} : incF ss (n + 1) ↔ incF ss n ∧ lastN ss n < ss.getD n 0 := by
  constructor
  · intro h; exact ⟨fun i hi => h i zz11, h n (Nat.lt_succ_self _)⟩
  · rintro ⟨h1, h2⟩ i hi
    rcases Nat.lt_or_ge i n with h3 | h3
    · exact h1 i h3
    · obtain rfl : i = n := by omega
      exact h2
theorem incF_no {ss : List UInt64} {n m : Nat} (h : ¬ incF ss n) (hn : n ≤ m) : ¬ incF ss m := fun k => h fun i hi => k i zz11
theorem chk_4 {l : Rv} (h : 500 < l.ss.length) : chkR l = 4 := if_pos h
theorem chk_8 {l : Rv} (h : ¬ 500 < l.ss.length) (k : okR l = false) : chkR l = 8 := (if_neg h).trans (if_neg (by simp [k]))
theorem chk_ok {l : Rv} (h : ¬ 500 < l.ss.length) (k : okR l = true) : chkR l = 0 := (if_neg h).trans (if_pos k)
theorem okR_A {l : Rv} (k : okA l = false) : okR l = false := by unfold okR; rw [k]; rfl
theorem okR_I {l : Rv} (k : ¬ incF l.ss l.ss.length) : okR l = false := by unfold okR; rw [decide_eq_false k, Bool.and_false]
theorem okR_ok {l : Rv} (k : okA l = true) (k2 : incF l.ss l.ss.length) : okR l = true := by unfold okR; rw [k, decide_eq_true k2]; rfl
theorem chk_inv {l : Rv} (h : chkR l = 0) : ¬ 500 < l.ss.length ∧ incF l.ss l.ss.length := by
  unfold chkR at h
  split at h
  · cases h
  · rename_i h1
    split at h
    · rename_i h2
      unfold okR at h2
      rw [Bool.and_eq_true, decide_eq_true_eq] at h2
      exact ⟨h1, h2.2⟩
    · cases h
def Rv.eqv (a b : Rv) : Prop := a.nm = b.nm ∧ a.no = b.no ∧ (a.fr = b.fr ∧ a.tt = b.tt) ∧ a.ss = b.ss ∧ (a.ix = b.ix ∧ a.chs = b.chs ∧ a.ps = b.ps)
instance {a b : Rv} : Decidable (a.eqv b) := by unfold Rv.eqv; exact inferInstance
def bigR (l : Rv) : Bool := decide (500 < l.nm.length) || decide (520 < l.ss.length) || (decide (60 < l.chs.length) || decide (60 < l.ps.length))
end Go.Proofs.Ytgnablliekgbgaa
namespace Go.Proofs.Ytgnablliekgbgaa
open Go Go.PL Go.RowKit
theorem e45 (c : UInt8) : (c = 45) ↔ c.toNat = 45 := by rw [← UInt8.toNat_inj]; rfl
theorem e95 (c : UInt8) : (c = 95) ↔ c.toNat = 95 := by rw [← UInt8.toNat_inj]; rfl
theorem goodB_iff (c : UInt8) : goodB c = true ↔ ((97 ≤ c.toNat ∧ c.toNat ≤ 122) ∨ (65 ≤ c.toNat ∧ c.toNat ≤ 90) ∨ (48 ≤ c.toNat ∧ c.toNat ≤ 57) ∨ c.toNat = 45 ∨ c.toNat = 95) := by
  unfold goodB
  simp only [Bool.or_eq_true, Bool.and_eq_true, decide_eq_true_eq]
  omega
theorem name_bad {xs : List UInt8} {i : Nat} (h : i < xs.length) (hg : goodB (xs.getD i 0) = false) : nameF xs = false := by
  have : xs.all goodB = false := by
    rw [List.all_eq_false]
    refine ⟨xs[i], List.getElem_mem h, ?_⟩
    rw [List.getD_eq_getElem?_getD, List.getElem?_eq_getElem h] at hg
    simpa using hg
  unfold nameF; rw [this, Bool.and_false]
theorem name_all {xs : List UInt8} (h : ∀ j, j < xs.length → goodB (xs.getD j 0) = true) : nameF xs = (decide (1 ≤ xs.length) && decide (xs.length ≤ 40)) := by
  have : xs.all goodB = true := by
    rw [List.all_eq_true]
    intro x hx
    obtain ⟨j, hj, rfl⟩ := List.mem_iff_getElem.1 hx
    have := h j hj
    rwa [List.getD_eq_getElem?_getD, List.getElem?_eq_getElem hj] at this
  unfold nameF; rw [this, Bool.and_true]
theorem name_len {xs : List UInt8} (h : xs.length = 0 ∨ 40 < xs.length) : nameF xs = false := by
  unfold nameF
  rcases h with h | h
  · rw [decide_eq_false (show ¬ 1 ≤ xs.length from zz11)]; rfl
  · rw [decide_eq_false (show ¬ xs.length ≤ 40 from zz11), Bool.and_false]; rfl
theorem good (ht : Int) (w : World)   :
    Calls Try.prog 65 [.int .i64 ht].toArray w (Pur w (.bool (decide (0 ≤ ht ∧ ht ≤ 4)))) := by
  refine enter (m := 9) (R := Mem w [] [] []) Try.func65 rfl rfl (Nat.le_of_ble_eq_true rfl) (Mem.start w) ?_
  refine wpc_seq <| wpc_region <| wpl_q (q_pure rfl) rfl <| wpl_nil <| ex_then <| wpc_seq <| wpc_region <| wpl_q (q_pure rfl) rfl <| wpl_q (q_pure rfl) rfl <| wpl_q (q_pure rfl) rfl ?_
  refine wpl_bool2 5 4 rfl rfl (fun hb5 => ?_) (fun hb5 => ?_)
  ·
   try simp only [decide_eq_true_eq, decide_eq_false_iff_not, Bool.and_eq_true, Bool.or_eq_true, beq_iff_eq, bne_iff_ne, ne_eq, Bool.not_eq_true', Bool.not_eq_false', Decidable.not_not] at hb5
   refine wpl_on rfl rfl <| wpl_q (q_pure rfl) rfl <| wpl_on rfl rfl <| wpl_q (q_pure rfl) rfl <| wpl_q (q_pure rfl) rfl <| wpl_q (q_pure rfl) rfl <| wpl_nil <| ex_then <| wpc_ret ?_
   refine ret1 (.inl rfl) rfl rfl ?_
   exact fun w h => ⟨by simp; omega, h.below⟩
  ·
   try simp only [decide_eq_true_eq, decide_eq_false_iff_not, Bool.and_eq_true, Bool.or_eq_true, beq_iff_eq, bne_iff_ne, ne_eq, Bool.not_eq_true', Bool.not_eq_false', Decidable.not_not] at hb5
   refine wpl_off rfl rfl rfl rfl <| wpl_off rfl rfl rfl rfl <| wpl_q (q_pure rfl) rfl <| wpl_q (q_pure rfl) rfl <| wpl_nil <| ex_then <| wpc_ret ?_
   refine ret1 (.inl rfl) rfl rfl ?_
   exact fun w h => ⟨by simp; omega, h.below⟩
theorem check7 (ht : Int) (ix : Int) (cv pv : Value) (chs ps : List (List UInt8)) (w : World) (hcv : SV cv chs.length) (hpv : SV pv ps.length)  :
    Calls Try.prog 32 [.int .i64 ht, .agg #[.int .i64 ix, cv, pv]].toArray w (Pur w (.int .i64 (sgChk ht ix chs.length ps.length))) := by
  haveI : OneC [.int .i64 ix, cv, pv] := OneC.cons rfl (OneC.cons (SV.one hcv) (OneC.cons (SV.one hpv) oneC_nil))
  have lcv := hcv.le
  have lpv := hpv.le
  simp only [maxLen] at lcv lpv
  refine enter (m := 31) (R := Mem w [] [] []) Try.func32 rfl rfl (Nat.le_of_ble_eq_true rfl) (Mem.start w) ?_
  refine wpc_seq <| wpc_region ?_
  refine wpl_t (t_box rfl [.int .i64 ix, cv, pv] rfl) rfl (fun b3 => ?_)
  refine wpl_q (q_pure rfl) rfl <| wpl_nil <| ex_then <| wpc_seq <| wpc_seq <| wpc_region <| wpl_q (q_pure rfl) rfl ?_
  refine wpl_t (t_pur Try.hb65 rfl fun w h => good _ w) rfl (fun b6 => ?_)
  refine wpl_q (q_pure rfl) rfl <| wpl_nil <| ex_then ?_
  refine wpc_cond rfl (fun hc7 => ?_) (fun hc7 => ?_)
  ·
   try simp only [decide_eq_true_eq, decide_eq_false_iff_not, Bool.and_eq_true, Bool.or_eq_true, beq_iff_eq, bne_iff_ne, ne_eq, Bool.not_eq_true', Bool.not_eq_false', Decidable.not_not] at hc7
   refine wpc_seq <| wpc_region <| wpl_q (q_pure rfl) rfl <| wpl_nil <| ex_then <| wpc_ret ?_
   refine ex_then_ret ?_
   refine ret1 (.inl rfl) rfl rfl ?_
   exact fun w h => ⟨by rw [check_2 hc7], h.below⟩
  ·
   simp only [Bool.not_eq_false', decide_eq_true_eq] at hc7
   obtain ⟨m, rfl⟩ : ∃ m : Nat, ht = (m : Int) := ⟨ht.toNat, zz11⟩
   have hpw := pow_le16 (m := m) zz11
   refine wpc_skip <| ex_then <| wpc_seq <| wpc_seq ?_
   refine wpc_draw 23 zz6 (fun _ h => h.drew) ?_
   refine wpd_p 0 rfl zz6 trivial (q_field Try.underlying28 rfl Try.ti3 rfl rfl _ rfl) rfl sk0 ?_
   refine wpd_q 1 rfl zz6 trivial (q_ld Try.underlying3 rfl rfl zz23) rfl (fun _ h => h) ?_
   refine wpd_p 2 rfl zz6 trivial (q_pure rfl) rfl sk0 ?_
   refine wpd_p 3 rfl zz6 trivial (q_pure rfl) rfl sk0 ?_
   refine wpd_bool2 11 10 rfl rfl (fun hb11 => ?_) (fun hb11 => ?_)
   ·
    try simp only [decide_eq_true_eq, decide_eq_false_iff_not, Bool.and_eq_true, Bool.or_eq_true, beq_iff_eq, bne_iff_ne, ne_eq, Bool.not_eq_true', Bool.not_eq_false', Decidable.not_not] at hb11
    refine wpd_off 4 rfl zz6 ⟨_, _, rfl, rfl, rfl⟩ rfl sk0 ?_
    refine wpd_off 5 rfl zz6 ⟨_, _, rfl, rfl, rfl⟩ rfl sk0 ?_
    refine wpd_off 6 rfl zz6 ⟨_, _, rfl, rfl, rfl⟩ rfl sk0 ?_
    refine wpd_off 7 rfl zz6 ⟨_, _, rfl, rfl, rfl⟩ rfl sk0 ?_
    refine wpd_off 8 rfl zz6 ⟨_, _, rfl, rfl, rfl⟩ rfl sk0 ?_
    refine wpd_p 9 rfl zz6 trivial (q_pure rfl) rfl sk0 ?_
    refine wpd_p 10 rfl zz6 trivial (q_pure rfl) rfl sk0 ?_
    refine wpd_off 11 rfl zz6 ⟨_, _, rfl, rfl, rfl⟩ rfl sk0 ?_
    refine wpd_off 12 rfl zz6 ⟨_, _, rfl, rfl, rfl⟩ rfl sk0 ?_
    refine wpd_off 13 rfl zz6 ⟨_, _, rfl, rfl, rfl⟩ rfl sk0 ?_
    refine wpd_off 14 rfl zz6 ⟨_, _, rfl, rfl, rfl⟩ rfl sk0 ?_
    refine wpd_p 15 rfl zz6 trivial (q_pure rfl) rfl sk0 ?_
    refine wpd_p 16 rfl zz6 trivial (q_pure rfl) rfl sk0 ?_
    refine wpd_off 17 rfl zz6 ⟨_, _, rfl, rfl, rfl⟩ rfl sk0 ?_
    refine wpd_off 18 rfl zz6 ⟨_, _, rfl, rfl, rfl⟩ rfl sk0 ?_
    refine wpd_off 19 rfl zz6 ⟨_, _, rfl, rfl, rfl⟩ rfl sk0 ?_
    refine wpd_off 20 rfl zz6 ⟨_, _, rfl, rfl, rfl⟩ rfl sk0 ?_
    refine wpd_off 21 rfl zz6 ⟨_, _, rfl, rfl, rfl⟩ rfl sk0 ?_
    refine wpd_p 22 rfl zz6 trivial (q_pure rfl) rfl sk0 ?_
    refine wpd_done zz6 ?_
    refine ex_then ?_
    refine wpc_cond_t rfl ?_
    refine wpc_seq <| wpc_region <| wpl_q (q_pure rfl) rfl <| wpl_nil <| ex_then <| wpc_ret ?_
    refine ex_then_ret ?_
    refine ret1 (.inl rfl) rfl rfl ?_
    exact fun w h => ⟨zz24, h.below⟩
   ·
    try simp only [decide_eq_true_eq, decide_eq_false_iff_not, Bool.and_eq_true, Bool.or_eq_true, beq_iff_eq, bne_iff_ne, ne_eq, Bool.not_eq_true', Bool.not_eq_false', Decidable.not_not] at hb11
    refine wpd_p 4 rfl zz6 ⟨_, rfl, rfl⟩ (q_field Try.underlying28 rfl Try.ti3 rfl rfl _ rfl) rfl sk0 ?_
    refine wpd_q 5 rfl zz6 ⟨_, rfl, rfl⟩ (q_ld Try.underlying3 rfl rfl zz23) rfl (fun _ h => h) ?_
    refine wpd_p 6 rfl zz6 ⟨_, rfl, rfl⟩ (q_pure rfl) rfl sk0 ?_
    refine wpd_p 7 rfl zz6 ⟨_, rfl, rfl⟩ (q_shlN (a := 1) rfl rfl zz29 zz0) rfl sk0 ?_
    refine wpd_p 8 rfl zz6 ⟨_, rfl, rfl⟩ (q_pure rfl) rfl sk0 ?_
    refine wpd_p 9 rfl zz6 trivial (q_pure rfl) rfl sk0 ?_
    refine wpd_p 10 rfl zz6 trivial (q_pure rfl) rfl sk0 ?_
    refine wpd_bool2 18 16 rfl rfl (fun hb18 => ?_) (fun hb18 => ?_)
    ·
     try simp only [decide_eq_true_eq, decide_eq_false_iff_not, Bool.and_eq_true, Bool.or_eq_true, beq_iff_eq, bne_iff_ne, ne_eq, Bool.not_eq_true', Bool.not_eq_false', Decidable.not_not] at hb18
     refine wpd_off 11 rfl zz6 ⟨_, _, rfl, rfl, rfl⟩ rfl sk0 ?_
     refine wpd_off 12 rfl zz6 ⟨_, _, rfl, rfl, rfl⟩ rfl sk0 ?_
     refine wpd_off 13 rfl zz6 ⟨_, _, rfl, rfl, rfl⟩ rfl sk0 ?_
     refine wpd_off 14 rfl zz6 ⟨_, _, rfl, rfl, rfl⟩ rfl sk0 ?_
     refine wpd_p 15 rfl zz6 trivial (q_pure rfl) rfl sk0 ?_
     refine wpd_p 16 rfl zz6 trivial (q_pure rfl) rfl sk0 ?_
     refine wpd_off 17 rfl zz6 ⟨_, _, rfl, rfl, rfl⟩ rfl sk0 ?_
     refine wpd_off 18 rfl zz6 ⟨_, _, rfl, rfl, rfl⟩ rfl sk0 ?_
     refine wpd_off 19 rfl zz6 ⟨_, _, rfl, rfl, rfl⟩ rfl sk0 ?_
     refine wpd_off 20 rfl zz6 ⟨_, _, rfl, rfl, rfl⟩ rfl sk0 ?_
     refine wpd_off 21 rfl zz6 ⟨_, _, rfl, rfl, rfl⟩ rfl sk0 ?_
     refine wpd_p 22 rfl zz6 trivial (q_pure rfl) rfl sk0 ?_
     refine wpd_done zz6 ?_
     refine ex_then ?_
     refine wpc_cond_t rfl ?_
     refine wpc_seq <| wpc_region <| wpl_q (q_pure rfl) rfl <| wpl_nil <| ex_then <| wpc_ret ?_
     refine ex_then_ret ?_
     refine ret1 (.inl rfl) rfl rfl ?_
     exact fun w h => ⟨zz24, h.below⟩
    ·
     try simp only [decide_eq_true_eq, decide_eq_false_iff_not, Bool.and_eq_true, Bool.or_eq_true, beq_iff_eq, bne_iff_ne, ne_eq, Bool.not_eq_true', Bool.not_eq_false', Decidable.not_not] at hb18
     refine wpd_p 11 rfl zz6 ⟨_, rfl, rfl⟩ (q_field Try.underlying28 rfl Try.ti26 rfl rfl _ rfl) rfl sk0 ?_
     refine wpd_q 12 rfl zz6 ⟨_, rfl, rfl⟩ (q_ld Try.underlying26 rfl rfl rfl) rfl (fun _ h => h) ?_
     refine wpd_p 13 rfl zz6 ⟨_, rfl, rfl⟩ (q_lenW Try.underlying26 rfl zz2) rfl sk0 ?_
     refine wpd_p 14 rfl zz6 ⟨_, rfl, rfl⟩ (q_pure rfl) rfl sk0 ?_
     refine wpd_p 15 rfl zz6 trivial (q_pure rfl) rfl sk0 ?_
     refine wpd_p 16 rfl zz6 trivial (q_pure rfl) rfl sk0 ?_
     refine wpd_bool2 24 22 rfl rfl (fun hb24 => ?_) (fun hb24 => ?_)
     ·
      try simp only [decide_eq_true_eq, decide_eq_false_iff_not, Bool.and_eq_true, Bool.or_eq_true, beq_iff_eq, bne_iff_ne, ne_eq, Bool.not_eq_true', Bool.not_eq_false', Decidable.not_not] at hb24
      refine wpd_off 17 rfl zz6 ⟨_, _, rfl, rfl, rfl⟩ rfl sk0 ?_
      refine wpd_off 18 rfl zz6 ⟨_, _, rfl, rfl, rfl⟩ rfl sk0 ?_
      refine wpd_off 19 rfl zz6 ⟨_, _, rfl, rfl, rfl⟩ rfl sk0 ?_
      refine wpd_off 20 rfl zz6 ⟨_, _, rfl, rfl, rfl⟩ rfl sk0 ?_
      refine wpd_off 21 rfl zz6 ⟨_, _, rfl, rfl, rfl⟩ rfl sk0 ?_
      refine wpd_p 22 rfl zz6 trivial (q_pure rfl) rfl sk0 ?_
      refine wpd_done zz6 ?_
      refine ex_then ?_
      refine wpc_cond_t rfl ?_
      refine wpc_seq <| wpc_region <| wpl_q (q_pure rfl) rfl <| wpl_nil <| ex_then <| wpc_ret ?_
      refine ex_then_ret ?_
      refine ret1 (.inl rfl) rfl rfl ?_
      exact fun w h => ⟨zz24, h.below⟩
     ·
      try simp only [decide_eq_true_eq, decide_eq_false_iff_not, Bool.and_eq_true, Bool.or_eq_true, beq_iff_eq, bne_iff_ne, ne_eq, Bool.not_eq_true', Bool.not_eq_false', Decidable.not_not] at hb24
      refine wpd_p 17 rfl zz6 ⟨_, rfl, rfl⟩ (q_field Try.underlying28 rfl Try.ti26 rfl rfl _ rfl) rfl sk0 ?_
      refine wpd_q 18 rfl zz6 ⟨_, rfl, rfl⟩ (q_ld Try.underlying26 rfl rfl rfl) rfl (fun _ h => h) ?_
      refine wpd_p 19 rfl zz6 ⟨_, rfl, rfl⟩ (q_lenW Try.underlying26 rfl zz2) rfl sk0 ?_
      refine wpd_p 20 rfl zz6 ⟨_, rfl, rfl⟩ (q_pure rfl) rfl sk0 ?_
      refine wpd_p 21 rfl zz6 ⟨_, rfl, rfl⟩ (q_pure rfl) rfl sk0 ?_
      refine wpd_p 22 rfl zz6 trivial (q_pure rfl) rfl sk0 ?_
      refine wpd_done zz6 ?_
      refine ex_then ?_
      refine wpc_cond rfl (fun hc30 => ?_) (fun hc30 => ?_)
      ·
       try simp only [decide_eq_true_eq, decide_eq_false_iff_not, Bool.and_eq_true, Bool.or_eq_true, beq_iff_eq, bne_iff_ne, ne_eq, Bool.not_eq_true', Bool.not_eq_false', Decidable.not_not] at hc30
       refine wpc_seq <| wpc_region <| wpl_q (q_pure rfl) rfl <| wpl_nil <| ex_then <| wpc_ret ?_
       refine ex_then_ret ?_
       refine ret1 (.inl rfl) rfl rfl ?_
       exact fun w h => ⟨zz24, h.below⟩
      ·
       simp only [bne_eq_false_iff_eq, decide_eq_false_iff_not, ne_eq, Decidable.not_not] at hc30 hb24
       refine wpc_skip <| ex_then <| wpc_seq <| wpc_region <| wpl_q (q_pure rfl) rfl <| wpl_nil <| ex_then <| wpc_ret ?_
       refine ret1 (.inl rfl) rfl rfl ?_
       exact fun w h => ⟨by rw [check_0 zz11 zz11], h.below⟩
theorem isTime (t : Int) (w : World)   :
    Calls Try.prog 64 [.int .i64 t].toArray w (Pur w (.bool (timeF t))) := by
  refine enter (m := 9) (R := Mem w [] [] []) Try.func64 rfl rfl (Nat.le_of_ble_eq_true rfl) (Mem.start w) ?_
  refine wpc_seq <| wpc_region <| wpl_q (q_pure rfl) rfl <| wpl_nil <| ex_then <| wpc_seq <| wpc_region <| wpl_q (q_pure rfl) rfl <| wpl_q (q_pure rfl) rfl <| wpl_q (q_pure rfl) rfl ?_
  refine wpl_bool2 5 4 rfl rfl (fun hb5 => ?_) (fun hb5 => ?_)
  ·
   try simp only [decide_eq_true_eq, decide_eq_false_iff_not, Bool.and_eq_true, Bool.or_eq_true, beq_iff_eq, bne_iff_ne, ne_eq, Bool.not_eq_true', Bool.not_eq_false', Decidable.not_not] at hb5
   refine wpl_on rfl rfl <| wpl_q (q_pure rfl) rfl <| wpl_on rfl rfl <| wpl_q (q_pure rfl) rfl <| wpl_q (q_pure rfl) rfl <| wpl_q (q_pure rfl) rfl <| wpl_nil <| ex_then <| wpc_ret ?_
   refine ret1 (.inl rfl) rfl rfl ?_
   exact fun w h => ⟨congrArg (fun b => Ending.returned (Value.bool b)) zz21, h.below⟩
  ·
   try simp only [decide_eq_true_eq, decide_eq_false_iff_not, Bool.and_eq_true, Bool.or_eq_true, beq_iff_eq, bne_iff_ne, ne_eq, Bool.not_eq_true', Bool.not_eq_false', Decidable.not_not] at hb5
   refine wpl_off rfl rfl rfl rfl <| wpl_off rfl rfl rfl rfl <| wpl_q (q_pure rfl) rfl <| wpl_q (q_pure rfl) rfl <| wpl_nil <| ex_then <| wpc_ret ?_
   refine ret1 (.inl rfl) rfl rfl ?_
   exact fun w h => ⟨congrArg (fun b => Ending.returned (Value.bool b)) zz21, h.below⟩
theorem refTime (t : Int) (w : World)   :
    Calls Try.prog 66 [.int .i64 t].toArray w (Pur w (.bool (timeF t))) := by
  refine enter (m := 9) (R := Mem w [] [] []) Try.func66 rfl rfl (Nat.le_of_ble_eq_true rfl) (Mem.start w) ?_
  refine wpc_seq <| wpc_region <| wpl_q (q_pure rfl) rfl <| wpl_nil <| ex_then <| wpc_seq <| wpc_region <| wpl_q (q_pure rfl) rfl <| wpl_q (q_pure rfl) rfl <| wpl_q (q_pure rfl) rfl ?_
  refine wpl_bool2 5 4 rfl rfl (fun hb5 => ?_) (fun hb5 => ?_)
  ·
   try simp only [decide_eq_true_eq, decide_eq_false_iff_not, Bool.and_eq_true, Bool.or_eq_true, beq_iff_eq, bne_iff_ne, ne_eq, Bool.not_eq_true', Bool.not_eq_false', Decidable.not_not] at hb5
   refine wpl_on rfl rfl <| wpl_q (q_pure rfl) rfl <| wpl_on rfl rfl <| wpl_q (q_pure rfl) rfl <| wpl_q (q_pure rfl) rfl <| wpl_q (q_pure rfl) rfl <| wpl_nil <| ex_then <| wpc_ret ?_
   refine ret1 (.inl rfl) rfl rfl ?_
   exact fun w h => ⟨congrArg (fun b => Ending.returned (Value.bool b)) zz21, h.below⟩
  ·
   try simp only [decide_eq_true_eq, decide_eq_false_iff_not, Bool.and_eq_true, Bool.or_eq_true, beq_iff_eq, bne_iff_ne, ne_eq, Bool.not_eq_true', Bool.not_eq_false', Decidable.not_not] at hb5
   refine wpl_off rfl rfl rfl rfl <| wpl_off rfl rfl rfl rfl <| wpl_q (q_pure rfl) rfl <| wpl_q (q_pure rfl) rfl <| wpl_nil <| ex_then <| wpc_ret ?_
   refine ret1 (.inl rfl) rfl rfl ?_
   exact fun w h => ⟨congrArg (fun b => Ending.returned (Value.bool b)) zz21, h.below⟩
theorem clockCheck (fr tt : Int) (w : World)   :
    Calls Try.prog 31 [.agg #[.int .i64 fr, .int .i64 tt]].toArray w (Pur w (.int .i64 (if winF fr tt then 0 else 8))) := by
  refine enter (m := 20) (R := Mem w [] [] []) Try.func31 rfl rfl (Nat.le_of_ble_eq_true rfl) (Mem.start w) ?_
  refine wpc_seq <| wpc_region ?_
  refine wpl_t (t_box rfl [.int .i64 fr, .int .i64 tt] rfl) rfl (fun b1 => ?_)
  refine wpl_q (q_pure rfl) rfl <| wpl_nil <| ex_then <| wpc_seq <| wpc_seq <| wpc_region <| wpl_q (q_field Try.underlying24 rfl Try.ti2 rfl rfl _ rfl) rfl ?_
  refine wpl_q (q_ld Try.underlying2 rfl rfl zz23) rfl ?_
  refine wpl_t (t_pur Try.hb64 rfl fun w h => isTime _ w) rfl (fun b5 => ?_)
  refine wpl_q (q_pure rfl) rfl <| wpl_q (q_pure rfl) rfl ?_
  refine wpl_bool2 7 6 rfl rfl (fun hb7 => ?_) (fun hb7 => ?_)
  ·
   try simp only [decide_eq_true_eq, decide_eq_false_iff_not, Bool.and_eq_true, Bool.or_eq_true, beq_iff_eq, bne_iff_ne, ne_eq, Bool.not_eq_true', Bool.not_eq_false', Decidable.not_not] at hb7
   refine wpl_off rfl rfl rfl rfl <| wpl_off rfl rfl rfl rfl <| wpl_off rfl rfl rfl rfl <| wpl_off rfl rfl rfl rfl <| wpl_q (q_pure rfl) rfl <| wpl_q (q_pure rfl) rfl <| wpl_off rfl rfl rfl rfl <| wpl_off rfl rfl rfl rfl <| wpl_off rfl rfl rfl rfl <| wpl_off rfl rfl rfl rfl <| wpl_off rfl rfl rfl rfl <| wpl_q (q_pure rfl) rfl ?_
   refine wpl_nil <| ex_then ?_
   refine wpc_cond_t rfl ?_
   refine wpc_seq <| wpc_region <| wpl_q (q_pure rfl) rfl <| wpl_nil <| ex_then <| wpc_ret ?_
   refine ex_then_ret ?_
   refine ret1 (.inl rfl) rfl rfl ?_
   exact fun w h => ⟨zz25, h.below⟩
  ·
   try simp only [decide_eq_true_eq, decide_eq_false_iff_not, Bool.and_eq_true, Bool.or_eq_true, beq_iff_eq, bne_iff_ne, ne_eq, Bool.not_eq_true', Bool.not_eq_false', Decidable.not_not] at hb7
   refine wpl_on rfl rfl <| wpl_q (q_field Try.underlying24 rfl Try.ti2 rfl rfl _ rfl) rfl <| wpl_on rfl rfl ?_
   refine wpl_q (q_ld Try.underlying2 rfl rfl zz23) rfl ?_
   refine wpl_on rfl rfl ?_
   refine wpl_t (t_pur Try.hb64 rfl fun w h => isTime _ w) rfl (fun b10 => ?_)
   refine wpl_on rfl rfl <| wpl_q (q_pure rfl) rfl <| wpl_q (q_pure rfl) rfl <| wpl_q (q_pure rfl) rfl ?_
   refine wpl_bool2 13 11 rfl rfl (fun hb13 => ?_) (fun hb13 => ?_)
   ·
    try simp only [decide_eq_true_eq, decide_eq_false_iff_not, Bool.and_eq_true, Bool.or_eq_true, beq_iff_eq, bne_iff_ne, ne_eq, Bool.not_eq_true', Bool.not_eq_false', Decidable.not_not] at hb13
    refine wpl_off rfl rfl rfl rfl <| wpl_off rfl rfl rfl rfl <| wpl_off rfl rfl rfl rfl <| wpl_off rfl rfl rfl rfl <| wpl_off rfl rfl rfl rfl <| wpl_q (q_pure rfl) rfl <| wpl_nil <| ex_then ?_
    refine wpc_cond_t rfl ?_
    refine wpc_seq <| wpc_region <| wpl_q (q_pure rfl) rfl <| wpl_nil <| ex_then <| wpc_ret ?_
    refine ex_then_ret ?_
    refine ret1 (.inl rfl) rfl rfl ?_
    exact fun w h => ⟨zz25, h.below⟩
   ·
    try simp only [decide_eq_true_eq, decide_eq_false_iff_not, Bool.and_eq_true, Bool.or_eq_true, beq_iff_eq, bne_iff_ne, ne_eq, Bool.not_eq_true', Bool.not_eq_false', Decidable.not_not] at hb13
    refine wpl_on rfl rfl <| wpl_q (q_field Try.underlying24 rfl Try.ti2 rfl rfl _ rfl) rfl <| wpl_on rfl rfl ?_
    refine wpl_q (q_ld Try.underlying2 rfl rfl zz23) rfl ?_
    refine wpl_on rfl rfl <| wpl_q (q_field Try.underlying24 rfl Try.ti2 rfl rfl _ rfl) rfl <| wpl_on rfl rfl ?_
    refine wpl_q (q_ld Try.underlying2 rfl rfl zz23) rfl ?_
    refine wpl_on rfl rfl <| wpl_q (q_pure rfl) rfl <| wpl_q (q_pure rfl) rfl <| wpl_nil <| ex_then ?_
    refine wpc_cond rfl (fun hc19 => ?_) (fun hc19 => ?_)
    ·
     try simp only [decide_eq_true_eq, decide_eq_false_iff_not, Bool.and_eq_true, Bool.or_eq_true, beq_iff_eq, bne_iff_ne, ne_eq, Bool.not_eq_true', Bool.not_eq_false', Decidable.not_not] at hc19
     refine wpc_seq <| wpc_region <| wpl_q (q_pure rfl) rfl <| wpl_nil <| ex_then <| wpc_ret ?_
     refine ex_then_ret ?_
     refine ret1 (.inl rfl) rfl rfl ?_
     exact fun w h => ⟨zz25, h.below⟩
    ·
     try simp only [decide_eq_true_eq, decide_eq_false_iff_not, Bool.and_eq_true, Bool.or_eq_true, beq_iff_eq, bne_iff_ne, ne_eq, Bool.not_eq_true', Bool.not_eq_false', Decidable.not_not] at hc19
     refine wpc_skip <| ex_then <| wpc_seq <| wpc_region <| wpl_q (q_pure rfl) rfl <| wpl_nil <| ex_then <| wpc_ret ?_
     refine ret1 (.inl rfl) rfl rfl ?_
     exact fun w h => ⟨by rw [show (if winF fr tt then (0 : Int) else 8) = 0 by first | rfl | (rw [show winF fr tt = true from zz17]; rfl)], h.below⟩
theorem refCheck4 (fr tt : Int) (w : World)   :
    Calls Try.prog 34 [.agg #[.int .i64 fr, .int .i64 tt]].toArray w (Pur w (.int .i64 (if winF fr tt then 0 else 8))) := by
  refine enter (m := 18) (R := Mem w [] [] []) Try.func34 rfl rfl (Nat.le_of_ble_eq_true rfl) (Mem.start w) ?_
  refine wpc_seq <| wpc_region ?_
  refine wpl_t (t_box rfl [.int .i64 fr, .int .i64 tt] rfl) rfl (fun b1 => ?_)
  refine wpl_q (q_pure rfl) rfl <| wpl_nil <| ex_then <| wpc_seq <| wpc_seq <| wpc_region <| wpl_q (q_field Try.underlying24 rfl Try.ti2 rfl rfl _ rfl) rfl ?_
  refine wpl_q (q_ld Try.underlying2 rfl rfl zz23) rfl ?_
  refine wpl_t (t_pur Try.hb66 rfl fun w h => refTime _ w) rfl (fun b5 => ?_)
  refine wpl_q (q_pure rfl) rfl ?_
  refine wpl_bool2 6 5 rfl rfl (fun hb6 => ?_) (fun hb6 => ?_)
  ·
   try simp only [decide_eq_true_eq, decide_eq_false_iff_not, Bool.and_eq_true, Bool.or_eq_true, beq_iff_eq, bne_iff_ne, ne_eq, Bool.not_eq_true', Bool.not_eq_false', Decidable.not_not] at hb6
   refine wpl_on rfl rfl <| wpl_q (q_field Try.underlying24 rfl Try.ti2 rfl rfl _ rfl) rfl <| wpl_on rfl rfl ?_
   refine wpl_q (q_ld Try.underlying2 rfl rfl zz23) rfl ?_
   refine wpl_on rfl rfl ?_
   refine wpl_t (t_pur Try.hb66 rfl fun w h => refTime _ w) rfl (fun b9 => ?_)
   refine wpl_q (q_pure rfl) rfl <| wpl_q (q_pure rfl) rfl ?_
   refine wpl_bool2 11 9 rfl rfl (fun hb11 => ?_) (fun hb11 => ?_)
   ·
    try simp only [decide_eq_true_eq, decide_eq_false_iff_not, Bool.and_eq_true, Bool.or_eq_true, beq_iff_eq, bne_iff_ne, ne_eq, Bool.not_eq_true', Bool.not_eq_false', Decidable.not_not] at hb11
    refine wpl_on rfl rfl <| wpl_q (q_field Try.underlying24 rfl Try.ti2 rfl rfl _ rfl) rfl <| wpl_on rfl rfl ?_
    refine wpl_q (q_ld Try.underlying2 rfl rfl zz23) rfl ?_
    refine wpl_on rfl rfl <| wpl_q (q_field Try.underlying24 rfl Try.ti2 rfl rfl _ rfl) rfl <| wpl_on rfl rfl ?_
    refine wpl_q (q_ld Try.underlying2 rfl rfl zz23) rfl ?_
    refine wpl_on rfl rfl <| wpl_q (q_pure rfl) rfl <| wpl_q (q_pure rfl) rfl <| wpl_nil <| ex_then ?_
    refine wpc_cond rfl (fun hc17 => ?_) (fun hc17 => ?_)
    ·
     try simp only [decide_eq_true_eq, decide_eq_false_iff_not, Bool.and_eq_true, Bool.or_eq_true, beq_iff_eq, bne_iff_ne, ne_eq, Bool.not_eq_true', Bool.not_eq_false', Decidable.not_not] at hc17
     refine wpc_seq <| wpc_region <| wpl_q (q_pure rfl) rfl <| wpl_nil <| ex_then <| wpc_ret ?_
     refine ex_then_ret ?_
     refine ret1 (.inl rfl) rfl rfl ?_
     exact fun w h => ⟨by rw [show (if winF fr tt then (0 : Int) else 8) = 0 by first | rfl | (rw [show winF fr tt = true from zz17]; rfl)], h.below⟩
    ·
     try simp only [decide_eq_true_eq, decide_eq_false_iff_not, Bool.and_eq_true, Bool.or_eq_true, beq_iff_eq, bne_iff_ne, ne_eq, Bool.not_eq_true', Bool.not_eq_false', Decidable.not_not] at hc17
     refine wpc_skip <| ex_then <| wpc_seq <| wpc_region <| wpl_q (q_pure rfl) rfl <| wpl_nil <| ex_then <| wpc_ret ?_
     refine ret1 (.inl rfl) rfl rfl ?_
     exact fun w h => ⟨zz25, h.below⟩
   ·
    try simp only [decide_eq_true_eq, decide_eq_false_iff_not, Bool.and_eq_true, Bool.or_eq_true, beq_iff_eq, bne_iff_ne, ne_eq, Bool.not_eq_true', Bool.not_eq_false', Decidable.not_not] at hb11
    refine wpl_off rfl rfl rfl rfl <| wpl_off rfl rfl rfl rfl <| wpl_off rfl rfl rfl rfl <| wpl_off rfl rfl rfl rfl <| wpl_off rfl rfl rfl rfl <| wpl_q (q_pure rfl) rfl <| wpl_nil <| ex_then ?_
    refine wpc_cond_f rfl ?_
    refine wpc_skip <| ex_then <| wpc_seq <| wpc_region <| wpl_q (q_pure rfl) rfl <| wpl_nil <| ex_then <| wpc_ret ?_
    refine ret1 (.inl rfl) rfl rfl ?_
    exact fun w h => ⟨zz25, h.below⟩
  ·
   try simp only [decide_eq_true_eq, decide_eq_false_iff_not, Bool.and_eq_true, Bool.or_eq_true, beq_iff_eq, bne_iff_ne, ne_eq, Bool.not_eq_true', Bool.not_eq_false', Decidable.not_not] at hb6
   refine wpl_off rfl rfl rfl rfl <| wpl_off rfl rfl rfl rfl <| wpl_off rfl rfl rfl rfl <| wpl_q (q_pure rfl) rfl <| wpl_q (q_pure rfl) rfl <| wpl_off rfl rfl rfl rfl <| wpl_off rfl rfl rfl rfl <| wpl_off rfl rfl rfl rfl <| wpl_off rfl rfl rfl rfl <| wpl_off rfl rfl rfl rfl <| wpl_q (q_pure rfl) rfl <| wpl_nil ?_
   refine ex_then ?_
   refine wpc_cond_f rfl ?_
   refine wpc_skip <| ex_then <| wpc_seq <| wpc_region <| wpl_q (q_pure rfl) rfl <| wpl_nil <| ex_then <| wpc_ret ?_
   refine ret1 (.inl rfl) rfl rfl ?_
   exact fun w h => ⟨zz25, h.below⟩
theorem good1 (c : UInt8) (w : World)   :
    Calls Try.prog 63 [.int .u8 c.toNat].toArray w (Pur w (.bool (goodB c))) := by
  refine enter (m := 33) (R := Mem w [] [] []) Try.func63 rfl rfl (Nat.le_of_ble_eq_true rfl) (Mem.start w) ?_
  refine wpc_seq <| wpc_region <| wpl_q (q_pure rfl) rfl <| wpl_nil <| ex_then <| wpc_seq <| wpc_region <| wpl_q (q_pure rfl) rfl <| wpl_q (q_pure rfl) rfl <| wpl_q (q_pure rfl) rfl ?_
  refine wpl_bool2 5 4 rfl rfl (fun hb5 => ?_) (fun hb5 => ?_)
  ·
   try simp only [decide_eq_true_eq, decide_eq_false_iff_not, Bool.and_eq_true, Bool.or_eq_true, beq_iff_eq, bne_iff_ne, ne_eq, Bool.not_eq_true', Bool.not_eq_false', Decidable.not_not] at hb5
   refine wpl_on rfl rfl <| wpl_q (q_pure rfl) rfl <| wpl_on rfl rfl <| wpl_q (q_pure rfl) rfl <| wpl_q (q_pure rfl) rfl <| wpl_q (q_pure rfl) rfl ?_
   refine wpl_bool2 9 7 rfl rfl (fun hb9 => ?_) (fun hb9 => ?_)
   ·
    try simp only [decide_eq_true_eq, decide_eq_false_iff_not, Bool.and_eq_true, Bool.or_eq_true, beq_iff_eq, bne_iff_ne, ne_eq, Bool.not_eq_true', Bool.not_eq_false', Decidable.not_not] at hb9
    refine wpl_off rfl rfl rfl rfl <| wpl_off rfl rfl rfl rfl <| wpl_off rfl rfl rfl rfl <| wpl_off rfl rfl rfl rfl <| wpl_off rfl rfl rfl rfl <| wpl_off rfl rfl rfl rfl <| wpl_q (q_pure rfl) rfl <| wpl_q (q_pure rfl) rfl <| wpl_off rfl rfl rfl rfl <| wpl_off rfl rfl rfl rfl <| wpl_off rfl rfl rfl rfl <| wpl_off rfl rfl rfl rfl ?_
    refine wpl_off rfl rfl rfl rfl <| wpl_off rfl rfl rfl rfl <| wpl_q (q_pure rfl) rfl <| wpl_q (q_pure rfl) rfl <| wpl_off rfl rfl rfl rfl <| wpl_off rfl rfl rfl rfl <| wpl_q (q_pure rfl) rfl <| wpl_q (q_pure rfl) rfl <| wpl_off rfl rfl rfl rfl <| wpl_off rfl rfl rfl rfl <| wpl_q (q_pure rfl) rfl <| wpl_q (q_pure rfl) rfl ?_
    refine wpl_nil <| ex_then <| wpc_ret ?_
    refine ret1 (.inl rfl) rfl rfl ?_
    exact fun w h => ⟨congrArg (fun b => Ending.returned (Value.bool b)) zz9, h.below⟩
   ·
    try simp only [decide_eq_true_eq, decide_eq_false_iff_not, Bool.and_eq_true, Bool.or_eq_true, beq_iff_eq, bne_iff_ne, ne_eq, Bool.not_eq_true', Bool.not_eq_false', Decidable.not_not] at hb9
    refine wpl_on rfl rfl <| wpl_q (q_pure rfl) rfl <| wpl_on rfl rfl <| wpl_q (q_pure rfl) rfl <| wpl_on rfl rfl <| wpl_q (q_pure rfl) rfl ?_
    refine wpl_bool2 12 11 rfl rfl (fun hb12 => ?_) (fun hb12 => ?_)
    ·
     try simp only [decide_eq_true_eq, decide_eq_false_iff_not, Bool.and_eq_true, Bool.or_eq_true, beq_iff_eq, bne_iff_ne, ne_eq, Bool.not_eq_true', Bool.not_eq_false', Decidable.not_not] at hb12
     refine wpl_on rfl rfl <| wpl_q (q_pure rfl) rfl <| wpl_on rfl rfl <| wpl_q (q_pure rfl) rfl <| wpl_on rfl rfl <| wpl_q (q_pure rfl) rfl <| wpl_q (q_pure rfl) rfl <| wpl_q (q_pure rfl) rfl ?_
     refine wpl_bool2 17 14 rfl rfl (fun hb17 => ?_) (fun hb17 => ?_)
     ·
      try simp only [decide_eq_true_eq, decide_eq_false_iff_not, Bool.and_eq_true, Bool.or_eq_true, beq_iff_eq, bne_iff_ne, ne_eq, Bool.not_eq_true', Bool.not_eq_false', Decidable.not_not] at hb17
      refine wpl_off rfl rfl rfl rfl <| wpl_off rfl rfl rfl rfl <| wpl_off rfl rfl rfl rfl <| wpl_off rfl rfl rfl rfl <| wpl_off rfl rfl rfl rfl <| wpl_off rfl rfl rfl rfl <| wpl_q (q_pure rfl) rfl <| wpl_q (q_pure rfl) rfl <| wpl_off rfl rfl rfl rfl <| wpl_off rfl rfl rfl rfl <| wpl_q (q_pure rfl) rfl <| wpl_q (q_pure rfl) rfl ?_
      refine wpl_off rfl rfl rfl rfl <| wpl_off rfl rfl rfl rfl <| wpl_q (q_pure rfl) rfl <| wpl_q (q_pure rfl) rfl <| wpl_nil <| ex_then <| wpc_ret ?_
      refine ret1 (.inl rfl) rfl rfl ?_
      exact fun w h => ⟨congrArg (fun b => Ending.returned (Value.bool b)) zz9, h.below⟩
     ·
      try simp only [decide_eq_true_eq, decide_eq_false_iff_not, Bool.and_eq_true, Bool.or_eq_true, beq_iff_eq, bne_iff_ne, ne_eq, Bool.not_eq_true', Bool.not_eq_false', Decidable.not_not] at hb17
      refine wpl_on rfl rfl <| wpl_q (q_pure rfl) rfl <| wpl_on rfl rfl <| wpl_q (q_pure rfl) rfl <| wpl_on rfl rfl <| wpl_q (q_pure rfl) rfl ?_
      refine wpl_bool2 20 19 rfl rfl (fun hb20 => ?_) (fun hb20 => ?_)
      ·
       try simp only [decide_eq_true_eq, decide_eq_false_iff_not, Bool.and_eq_true, Bool.or_eq_true, beq_iff_eq, bne_iff_ne, ne_eq, Bool.not_eq_true', Bool.not_eq_false', Decidable.not_not] at hb20
       refine wpl_on rfl rfl <| wpl_q (q_pure rfl) rfl <| wpl_on rfl rfl <| wpl_q (q_pure rfl) rfl <| wpl_on rfl rfl <| wpl_q (q_pure rfl) rfl <| wpl_q (q_pure rfl) rfl <| wpl_q (q_pure rfl) rfl ?_
       refine wpl_bool2 25 22 rfl rfl (fun hb25 => ?_) (fun hb25 => ?_)
       ·
        try simp only [decide_eq_true_eq, decide_eq_false_iff_not, Bool.and_eq_true, Bool.or_eq_true, beq_iff_eq, bne_iff_ne, ne_eq, Bool.not_eq_true', Bool.not_eq_false', Decidable.not_not] at hb25
        refine wpl_off rfl rfl rfl rfl <| wpl_off rfl rfl rfl rfl <| wpl_q (q_pure rfl) rfl <| wpl_q (q_pure rfl) rfl <| wpl_off rfl rfl rfl rfl <| wpl_off rfl rfl rfl rfl <| wpl_q (q_pure rfl) rfl <| wpl_q (q_pure rfl) rfl <| wpl_nil <| ex_then <| wpc_ret ?_
        refine ret1 (.inl rfl) rfl rfl ?_
        exact fun w h => ⟨congrArg (fun b => Ending.returned (Value.bool b)) zz9, h.below⟩
       ·
        try simp only [decide_eq_true_eq, decide_eq_false_iff_not, Bool.and_eq_true, Bool.or_eq_true, beq_iff_eq, bne_iff_ne, ne_eq, Bool.not_eq_true', Bool.not_eq_false', Decidable.not_not] at hb25
        refine wpl_on rfl rfl <| wpl_q (q_pure rfl) rfl <| wpl_on rfl rfl ?_
        refine wpl_q (q8_eql (b := (45 : UInt8)) rfl rfl) rfl ?_
        refine wpl_q (q_pure rfl) rfl <| wpl_q (q_pure rfl) rfl ?_
        refine wpl_bool2 29 27 rfl rfl (fun hb29 => ?_) (fun hb29 => ?_)
        ·
         try simp only [decide_eq_true_eq, decide_eq_false_iff_not, Bool.and_eq_true, Bool.or_eq_true, beq_iff_eq, bne_iff_ne, ne_eq, Bool.not_eq_true', Bool.not_eq_false', Decidable.not_not] at hb29
         refine wpl_off rfl rfl rfl rfl <| wpl_off rfl rfl rfl rfl <| wpl_q (q_pure rfl) rfl <| wpl_q (q_pure rfl) rfl <| wpl_nil <| ex_then <| wpc_ret ?_
         refine ret1 (.inl rfl) rfl rfl ?_
         exact fun w h => ⟨congrArg (fun b => Ending.returned (Value.bool b)) zz9, h.below⟩
        ·
         try simp only [decide_eq_true_eq, decide_eq_false_iff_not, Bool.and_eq_true, Bool.or_eq_true, beq_iff_eq, bne_iff_ne, ne_eq, Bool.not_eq_true', Bool.not_eq_false', Decidable.not_not] at hb29
         refine wpl_on rfl rfl <| wpl_q (q_pure rfl) rfl <| wpl_on rfl rfl ?_
         refine wpl_q (q8_eql (b := (95 : UInt8)) rfl rfl) rfl ?_
         refine wpl_q (q_pure rfl) rfl <| wpl_q (q_pure rfl) rfl <| wpl_nil <| ex_then <| wpc_ret ?_
         refine ret1 (.inl rfl) rfl rfl ?_
         exact fun w h => ⟨congrArg (fun b => Ending.returned (Value.bool b)) zz9, h.below⟩
      ·
       try simp only [decide_eq_true_eq, decide_eq_false_iff_not, Bool.and_eq_true, Bool.or_eq_true, beq_iff_eq, bne_iff_ne, ne_eq, Bool.not_eq_true', Bool.not_eq_false', Decidable.not_not] at hb20
       refine wpl_off rfl rfl rfl rfl <| wpl_off rfl rfl rfl rfl <| wpl_on rfl rfl <| wpl_q (q_pure rfl) rfl <| wpl_q (q_pure rfl) rfl <| wpl_q (q_pure rfl) rfl <| wpl_on rfl rfl <| wpl_q (q_pure rfl) rfl <| wpl_on rfl rfl ?_
       refine wpl_q (q8_eql (b := (45 : UInt8)) rfl rfl) rfl ?_
       refine wpl_q (q_pure rfl) rfl <| wpl_q (q_pure rfl) rfl ?_
       refine wpl_bool2 29 27 rfl rfl (fun hb29 => ?_) (fun hb29 => ?_)
       ·
        try simp only [decide_eq_true_eq, decide_eq_false_iff_not, Bool.and_eq_true, Bool.or_eq_true, beq_iff_eq, bne_iff_ne, ne_eq, Bool.not_eq_true', Bool.not_eq_false', Decidable.not_not] at hb29
        refine wpl_off rfl rfl rfl rfl <| wpl_off rfl rfl rfl rfl <| wpl_q (q_pure rfl) rfl <| wpl_q (q_pure rfl) rfl <| wpl_nil <| ex_then <| wpc_ret ?_
        refine ret1 (.inl rfl) rfl rfl ?_
        exact fun w h => ⟨congrArg (fun b => Ending.returned (Value.bool b)) zz9, h.below⟩
       ·
        try simp only [decide_eq_true_eq, decide_eq_false_iff_not, Bool.and_eq_true, Bool.or_eq_true, beq_iff_eq, bne_iff_ne, ne_eq, Bool.not_eq_true', Bool.not_eq_false', Decidable.not_not] at hb29
        refine wpl_on rfl rfl <| wpl_q (q_pure rfl) rfl <| wpl_on rfl rfl ?_
        refine wpl_q (q8_eql (b := (95 : UInt8)) rfl rfl) rfl ?_
        refine wpl_q (q_pure rfl) rfl <| wpl_q (q_pure rfl) rfl <| wpl_nil <| ex_then <| wpc_ret ?_
        refine ret1 (.inl rfl) rfl rfl ?_
        exact fun w h => ⟨congrArg (fun b => Ending.returned (Value.bool b)) zz9, h.below⟩
    ·
     try simp only [decide_eq_true_eq, decide_eq_false_iff_not, Bool.and_eq_true, Bool.or_eq_true, beq_iff_eq, bne_iff_ne, ne_eq, Bool.not_eq_true', Bool.not_eq_false', Decidable.not_not] at hb12
     refine wpl_off rfl rfl rfl rfl <| wpl_off rfl rfl rfl rfl <| wpl_on rfl rfl <| wpl_q (q_pure rfl) rfl <| wpl_q (q_pure rfl) rfl <| wpl_q (q_pure rfl) rfl <| wpl_on rfl rfl <| wpl_q (q_pure rfl) rfl <| wpl_on rfl rfl <| wpl_q (q_pure rfl) rfl <| wpl_on rfl rfl <| wpl_q (q_pure rfl) rfl ?_
     refine wpl_bool2 20 19 rfl rfl (fun hb20 => ?_) (fun hb20 => ?_)
     ·
      try simp only [decide_eq_true_eq, decide_eq_false_iff_not, Bool.and_eq_true, Bool.or_eq_true, beq_iff_eq, bne_iff_ne, ne_eq, Bool.not_eq_true', Bool.not_eq_false', Decidable.not_not] at hb20
      refine wpl_on rfl rfl <| wpl_q (q_pure rfl) rfl <| wpl_on rfl rfl <| wpl_q (q_pure rfl) rfl <| wpl_on rfl rfl <| wpl_q (q_pure rfl) rfl <| wpl_q (q_pure rfl) rfl <| wpl_q (q_pure rfl) rfl ?_
      refine wpl_bool2 25 22 rfl rfl (fun hb25 => ?_) (fun hb25 => ?_)
      ·
       try simp only [decide_eq_true_eq, decide_eq_false_iff_not, Bool.and_eq_true, Bool.or_eq_true, beq_iff_eq, bne_iff_ne, ne_eq, Bool.not_eq_true', Bool.not_eq_false', Decidable.not_not] at hb25
       refine wpl_off rfl rfl rfl rfl <| wpl_off rfl rfl rfl rfl <| wpl_q (q_pure rfl) rfl <| wpl_q (q_pure rfl) rfl <| wpl_off rfl rfl rfl rfl <| wpl_off rfl rfl rfl rfl <| wpl_q (q_pure rfl) rfl <| wpl_q (q_pure rfl) rfl <| wpl_nil <| ex_then <| wpc_ret ?_
       refine ret1 (.inl rfl) rfl rfl ?_
       exact fun w h => ⟨congrArg (fun b => Ending.returned (Value.bool b)) zz9, h.below⟩
      ·
       try simp only [decide_eq_true_eq, decide_eq_false_iff_not, Bool.and_eq_true, Bool.or_eq_true, beq_iff_eq, bne_iff_ne, ne_eq, Bool.not_eq_true', Bool.not_eq_false', Decidable.not_not] at hb25
       refine wpl_on rfl rfl <| wpl_q (q_pure rfl) rfl <| wpl_on rfl rfl ?_
       refine wpl_q (q8_eql (b := (45 : UInt8)) rfl rfl) rfl ?_
       refine wpl_q (q_pure rfl) rfl <| wpl_q (q_pure rfl) rfl ?_
       refine wpl_bool2 29 27 rfl rfl (fun hb29 => ?_) (fun hb29 => ?_)
       ·
        try simp only [decide_eq_true_eq, decide_eq_false_iff_not, Bool.and_eq_true, Bool.or_eq_true, beq_iff_eq, bne_iff_ne, ne_eq, Bool.not_eq_true', Bool.not_eq_false', Decidable.not_not] at hb29
        refine wpl_off rfl rfl rfl rfl <| wpl_off rfl rfl rfl rfl <| wpl_q (q_pure rfl) rfl <| wpl_q (q_pure rfl) rfl <| wpl_nil <| ex_then <| wpc_ret ?_
        refine ret1 (.inl rfl) rfl rfl ?_
        exact fun w h => ⟨congrArg (fun b => Ending.returned (Value.bool b)) zz9, h.below⟩
       ·
        try simp only [decide_eq_true_eq, decide_eq_false_iff_not, Bool.and_eq_true, Bool.or_eq_true, beq_iff_eq, bne_iff_ne, ne_eq, Bool.not_eq_true', Bool.not_eq_false', Decidable.not_not] at hb29
        refine wpl_on rfl rfl <| wpl_q (q_pure rfl) rfl <| wpl_on rfl rfl ?_
        refine wpl_q (q8_eql (b := (95 : UInt8)) rfl rfl) rfl ?_
        refine wpl_q (q_pure rfl) rfl <| wpl_q (q_pure rfl) rfl <| wpl_nil <| ex_then <| wpc_ret ?_
        refine ret1 (.inl rfl) rfl rfl ?_
        exact fun w h => ⟨congrArg (fun b => Ending.returned (Value.bool b)) zz9, h.below⟩
     ·
      try simp only [decide_eq_true_eq, decide_eq_false_iff_not, Bool.and_eq_true, Bool.or_eq_true, beq_iff_eq, bne_iff_ne, ne_eq, Bool.not_eq_true', Bool.not_eq_false', Decidable.not_not] at hb20
      refine wpl_off rfl rfl rfl rfl <| wpl_off rfl rfl rfl rfl <| wpl_on rfl rfl <| wpl_q (q_pure rfl) rfl <| wpl_q (q_pure rfl) rfl <| wpl_q (q_pure rfl) rfl <| wpl_on rfl rfl <| wpl_q (q_pure rfl) rfl <| wpl_on rfl rfl ?_
      refine wpl_q (q8_eql (b := (45 : UInt8)) rfl rfl) rfl ?_
      refine wpl_q (q_pure rfl) rfl <| wpl_q (q_pure rfl) rfl ?_
      refine wpl_bool2 29 27 rfl rfl (fun hb29 => ?_) (fun hb29 => ?_)
      ·
       try simp only [decide_eq_true_eq, decide_eq_false_iff_not, Bool.and_eq_true, Bool.or_eq_true, beq_iff_eq, bne_iff_ne, ne_eq, Bool.not_eq_true', Bool.not_eq_false', Decidable.not_not] at hb29
       refine wpl_off rfl rfl rfl rfl <| wpl_off rfl rfl rfl rfl <| wpl_q (q_pure rfl) rfl <| wpl_q (q_pure rfl) rfl <| wpl_nil <| ex_then <| wpc_ret ?_
       refine ret1 (.inl rfl) rfl rfl ?_
       exact fun w h => ⟨congrArg (fun b => Ending.returned (Value.bool b)) zz9, h.below⟩
      ·
       try simp only [decide_eq_true_eq, decide_eq_false_iff_not, Bool.and_eq_true, Bool.or_eq_true, beq_iff_eq, bne_iff_ne, ne_eq, Bool.not_eq_true', Bool.not_eq_false', Decidable.not_not] at hb29
       refine wpl_on rfl rfl <| wpl_q (q_pure rfl) rfl <| wpl_on rfl rfl ?_
       refine wpl_q (q8_eql (b := (95 : UInt8)) rfl rfl) rfl ?_
       refine wpl_q (q_pure rfl) rfl <| wpl_q (q_pure rfl) rfl <| wpl_nil <| ex_then <| wpc_ret ?_
       refine ret1 (.inl rfl) rfl rfl ?_
       exact fun w h => ⟨congrArg (fun b => Ending.returned (Value.bool b)) zz9, h.below⟩
  ·
   try simp only [decide_eq_true_eq, decide_eq_false_iff_not, Bool.and_eq_true, Bool.or_eq_true, beq_iff_eq, bne_iff_ne, ne_eq, Bool.not_eq_true', Bool.not_eq_false', Decidable.not_not] at hb5
   refine wpl_off rfl rfl rfl rfl <| wpl_off rfl rfl rfl rfl <| wpl_q (q_pure rfl) rfl <| wpl_q (q_pure rfl) rfl <| wpl_on rfl rfl <| wpl_q (q_pure rfl) rfl <| wpl_on rfl rfl <| wpl_q (q_pure rfl) rfl <| wpl_on rfl rfl <| wpl_q (q_pure rfl) rfl ?_
   refine wpl_bool2 12 11 rfl rfl (fun hb12 => ?_) (fun hb12 => ?_)
   ·
    try simp only [decide_eq_true_eq, decide_eq_false_iff_not, Bool.and_eq_true, Bool.or_eq_true, beq_iff_eq, bne_iff_ne, ne_eq, Bool.not_eq_true', Bool.not_eq_false', Decidable.not_not] at hb12
    refine wpl_on rfl rfl <| wpl_q (q_pure rfl) rfl <| wpl_on rfl rfl <| wpl_q (q_pure rfl) rfl <| wpl_on rfl rfl <| wpl_q (q_pure rfl) rfl <| wpl_q (q_pure rfl) rfl <| wpl_q (q_pure rfl) rfl ?_
    refine wpl_bool2 17 14 rfl rfl (fun hb17 => ?_) (fun hb17 => ?_)
    ·
     try simp only [decide_eq_true_eq, decide_eq_false_iff_not, Bool.and_eq_true, Bool.or_eq_true, beq_iff_eq, bne_iff_ne, ne_eq, Bool.not_eq_true', Bool.not_eq_false', Decidable.not_not] at hb17
     refine wpl_off rfl rfl rfl rfl <| wpl_off rfl rfl rfl rfl <| wpl_off rfl rfl rfl rfl <| wpl_off rfl rfl rfl rfl <| wpl_off rfl rfl rfl rfl <| wpl_off rfl rfl rfl rfl <| wpl_q (q_pure rfl) rfl <| wpl_q (q_pure rfl) rfl <| wpl_off rfl rfl rfl rfl <| wpl_off rfl rfl rfl rfl <| wpl_q (q_pure rfl) rfl <| wpl_q (q_pure rfl) rfl ?_
     refine wpl_off rfl rfl rfl rfl <| wpl_off rfl rfl rfl rfl <| wpl_q (q_pure rfl) rfl <| wpl_q (q_pure rfl) rfl <| wpl_nil <| ex_then <| wpc_ret ?_
     refine ret1 (.inl rfl) rfl rfl ?_
     exact fun w h => ⟨congrArg (fun b => Ending.returned (Value.bool b)) zz9, h.below⟩
    ·
     try simp only [decide_eq_true_eq, decide_eq_false_iff_not, Bool.and_eq_true, Bool.or_eq_true, beq_iff_eq, bne_iff_ne, ne_eq, Bool.not_eq_true', Bool.not_eq_false', Decidable.not_not] at hb17
     refine wpl_on rfl rfl <| wpl_q (q_pure rfl) rfl <| wpl_on rfl rfl <| wpl_q (q_pure rfl) rfl <| wpl_on rfl rfl <| wpl_q (q_pure rfl) rfl ?_
     refine wpl_bool2 20 19 rfl rfl (fun hb20 => ?_) (fun hb20 => ?_)
     ·
      try simp only [decide_eq_true_eq, decide_eq_false_iff_not, Bool.and_eq_true, Bool.or_eq_true, beq_iff_eq, bne_iff_ne, ne_eq, Bool.not_eq_true', Bool.not_eq_false', Decidable.not_not] at hb20
      refine wpl_on rfl rfl <| wpl_q (q_pure rfl) rfl <| wpl_on rfl rfl <| wpl_q (q_pure rfl) rfl <| wpl_on rfl rfl <| wpl_q (q_pure rfl) rfl <| wpl_q (q_pure rfl) rfl <| wpl_q (q_pure rfl) rfl ?_
      refine wpl_bool2 25 22 rfl rfl (fun hb25 => ?_) (fun hb25 => ?_)
      ·
       try simp only [decide_eq_true_eq, decide_eq_false_iff_not, Bool.and_eq_true, Bool.or_eq_true, beq_iff_eq, bne_iff_ne, ne_eq, Bool.not_eq_true', Bool.not_eq_false', Decidable.not_not] at hb25
       refine wpl_off rfl rfl rfl rfl <| wpl_off rfl rfl rfl rfl <| wpl_q (q_pure rfl) rfl <| wpl_q (q_pure rfl) rfl <| wpl_off rfl rfl rfl rfl <| wpl_off rfl rfl rfl rfl <| wpl_q (q_pure rfl) rfl <| wpl_q (q_pure rfl) rfl <| wpl_nil <| ex_then <| wpc_ret ?_
       refine ret1 (.inl rfl) rfl rfl ?_
       exact fun w h => ⟨congrArg (fun b => Ending.returned (Value.bool b)) zz9, h.below⟩
      ·
       try simp only [decide_eq_true_eq, decide_eq_false_iff_not, Bool.and_eq_true, Bool.or_eq_true, beq_iff_eq, bne_iff_ne, ne_eq, Bool.not_eq_true', Bool.not_eq_false', Decidable.not_not] at hb25
       refine wpl_on rfl rfl <| wpl_q (q_pure rfl) rfl <| wpl_on rfl rfl ?_
       refine wpl_q (q8_eql (b := (45 : UInt8)) rfl rfl) rfl ?_
       refine wpl_q (q_pure rfl) rfl <| wpl_q (q_pure rfl) rfl ?_
       refine wpl_bool2 29 27 rfl rfl (fun hb29 => ?_) (fun hb29 => ?_)
       ·
        try simp only [decide_eq_true_eq, decide_eq_false_iff_not, Bool.and_eq_true, Bool.or_eq_true, beq_iff_eq, bne_iff_ne, ne_eq, Bool.not_eq_true', Bool.not_eq_false', Decidable.not_not] at hb29
        refine wpl_off rfl rfl rfl rfl <| wpl_off rfl rfl rfl rfl <| wpl_q (q_pure rfl) rfl <| wpl_q (q_pure rfl) rfl <| wpl_nil <| ex_then <| wpc_ret ?_
        refine ret1 (.inl rfl) rfl rfl ?_
        exact fun w h => ⟨congrArg (fun b => Ending.returned (Value.bool b)) zz9, h.below⟩
       ·
        try simp only [decide_eq_true_eq, decide_eq_false_iff_not, Bool.and_eq_true, Bool.or_eq_true, beq_iff_eq, bne_iff_ne, ne_eq, Bool.not_eq_true', Bool.not_eq_false', Decidable.not_not] at hb29
        refine wpl_on rfl rfl <| wpl_q (q_pure rfl) rfl <| wpl_on rfl rfl ?_
        refine wpl_q (q8_eql (b := (95 : UInt8)) rfl rfl) rfl ?_
        refine wpl_q (q_pure rfl) rfl <| wpl_q (q_pure rfl) rfl <| wpl_nil <| ex_then <| wpc_ret ?_
        refine ret1 (.inl rfl) rfl rfl ?_
        exact fun w h => ⟨congrArg (fun b => Ending.returned (Value.bool b)) zz9, h.below⟩
     ·
      try simp only [decide_eq_true_eq, decide_eq_false_iff_not, Bool.and_eq_true, Bool.or_eq_true, beq_iff_eq, bne_iff_ne, ne_eq, Bool.not_eq_true', Bool.not_eq_false', Decidable.not_not] at hb20
      refine wpl_off rfl rfl rfl rfl <| wpl_off rfl rfl rfl rfl <| wpl_on rfl rfl <| wpl_q (q_pure rfl) rfl <| wpl_q (q_pure rfl) rfl <| wpl_q (q_pure rfl) rfl <| wpl_on rfl rfl <| wpl_q (q_pure rfl) rfl <| wpl_on rfl rfl ?_
      refine wpl_q (q8_eql (b := (45 : UInt8)) rfl rfl) rfl ?_
      refine wpl_q (q_pure rfl) rfl <| wpl_q (q_pure rfl) rfl ?_
      refine wpl_bool2 29 27 rfl rfl (fun hb29 => ?_) (fun hb29 => ?_)
      ·
       try simp only [decide_eq_true_eq, decide_eq_false_iff_not, Bool.and_eq_true, Bool.or_eq_true, beq_iff_eq, bne_iff_ne, ne_eq, Bool.not_eq_true', Bool.not_eq_false', Decidable.not_not] at hb29
       refine wpl_off rfl rfl rfl rfl <| wpl_off rfl rfl rfl rfl <| wpl_q (q_pure rfl) rfl <| wpl_q (q_pure rfl) rfl <| wpl_nil <| ex_then <| wpc_ret ?_
       refine ret1 (.inl rfl) rfl rfl ?_
       exact fun w h => ⟨congrArg (fun b => Ending.returned (Value.bool b)) zz9, h.below⟩
      ·
       try simp only [decide_eq_true_eq, decide_eq_false_iff_not, Bool.and_eq_true, Bool.or_eq_true, beq_iff_eq, bne_iff_ne, ne_eq, Bool.not_eq_true', Bool.not_eq_false', Decidable.not_not] at hb29
       refine wpl_on rfl rfl <| wpl_q (q_pure rfl) rfl <| wpl_on rfl rfl ?_
       refine wpl_q (q8_eql (b := (95 : UInt8)) rfl rfl) rfl ?_
       refine wpl_q (q_pure rfl) rfl <| wpl_q (q_pure rfl) rfl <| wpl_nil <| ex_then <| wpc_ret ?_
       refine ret1 (.inl rfl) rfl rfl ?_
       exact fun w h => ⟨congrArg (fun b => Ending.returned (Value.bool b)) zz9, h.below⟩
   ·
    try simp only [decide_eq_true_eq, decide_eq_false_iff_not, Bool.and_eq_true, Bool.or_eq_true, beq_iff_eq, bne_iff_ne, ne_eq, Bool.not_eq_true', Bool.not_eq_false', Decidable.not_not] at hb12
    refine wpl_off rfl rfl rfl rfl <| wpl_off rfl rfl rfl rfl <| wpl_on rfl rfl <| wpl_q (q_pure rfl) rfl <| wpl_q (q_pure rfl) rfl <| wpl_q (q_pure rfl) rfl <| wpl_on rfl rfl <| wpl_q (q_pure rfl) rfl <| wpl_on rfl rfl <| wpl_q (q_pure rfl) rfl <| wpl_on rfl rfl <| wpl_q (q_pure rfl) rfl ?_
    refine wpl_bool2 20 19 rfl rfl (fun hb20 => ?_) (fun hb20 => ?_)
    ·
     try simp only [decide_eq_true_eq, decide_eq_false_iff_not, Bool.and_eq_true, Bool.or_eq_true, beq_iff_eq, bne_iff_ne, ne_eq, Bool.not_eq_true', Bool.not_eq_false', Decidable.not_not] at hb20
     refine wpl_on rfl rfl <| wpl_q (q_pure rfl) rfl <| wpl_on rfl rfl <| wpl_q (q_pure rfl) rfl <| wpl_on rfl rfl <| wpl_q (q_pure rfl) rfl <| wpl_q (q_pure rfl) rfl <| wpl_q (q_pure rfl) rfl ?_
     refine wpl_bool2 25 22 rfl rfl (fun hb25 => ?_) (fun hb25 => ?_)
     ·
      try simp only [decide_eq_true_eq, decide_eq_false_iff_not, Bool.and_eq_true, Bool.or_eq_true, beq_iff_eq, bne_iff_ne, ne_eq, Bool.not_eq_true', Bool.not_eq_false', Decidable.not_not] at hb25
      refine wpl_off rfl rfl rfl rfl <| wpl_off rfl rfl rfl rfl <| wpl_q (q_pure rfl) rfl <| wpl_q (q_pure rfl) rfl <| wpl_off rfl rfl rfl rfl <| wpl_off rfl rfl rfl rfl <| wpl_q (q_pure rfl) rfl <| wpl_q (q_pure rfl) rfl <| wpl_nil <| ex_then <| wpc_ret ?_
      refine ret1 (.inl rfl) rfl rfl ?_
      exact fun w h => ⟨congrArg (fun b => Ending.returned (Value.bool b)) zz9, h.below⟩
     ·
      try simp only [decide_eq_true_eq, decide_eq_false_iff_not, Bool.and_eq_true, Bool.or_eq_true, beq_iff_eq, bne_iff_ne, ne_eq, Bool.not_eq_true', Bool.not_eq_false', Decidable.not_not] at hb25
      refine wpl_on rfl rfl <| wpl_q (q_pure rfl) rfl <| wpl_on rfl rfl ?_
      refine wpl_q (q8_eql (b := (45 : UInt8)) rfl rfl) rfl ?_
      refine wpl_q (q_pure rfl) rfl <| wpl_q (q_pure rfl) rfl ?_
      refine wpl_bool2 29 27 rfl rfl (fun hb29 => ?_) (fun hb29 => ?_)
      ·
       try simp only [decide_eq_true_eq, decide_eq_false_iff_not, Bool.and_eq_true, Bool.or_eq_true, beq_iff_eq, bne_iff_ne, ne_eq, Bool.not_eq_true', Bool.not_eq_false', Decidable.not_not] at hb29
       refine wpl_off rfl rfl rfl rfl <| wpl_off rfl rfl rfl rfl <| wpl_q (q_pure rfl) rfl <| wpl_q (q_pure rfl) rfl <| wpl_nil <| ex_then <| wpc_ret ?_
       refine ret1 (.inl rfl) rfl rfl ?_
       exact fun w h => ⟨congrArg (fun b => Ending.returned (Value.bool b)) zz9, h.below⟩
      ·
       try simp only [decide_eq_true_eq, decide_eq_false_iff_not, Bool.and_eq_true, Bool.or_eq_true, beq_iff_eq, bne_iff_ne, ne_eq, Bool.not_eq_true', Bool.not_eq_false', Decidable.not_not] at hb29
       refine wpl_on rfl rfl <| wpl_q (q_pure rfl) rfl <| wpl_on rfl rfl ?_
       refine wpl_q (q8_eql (b := (95 : UInt8)) rfl rfl) rfl ?_
       refine wpl_q (q_pure rfl) rfl <| wpl_q (q_pure rfl) rfl <| wpl_nil <| ex_then <| wpc_ret ?_
       refine ret1 (.inl rfl) rfl rfl ?_
       exact fun w h => ⟨congrArg (fun b => Ending.returned (Value.bool b)) zz9, h.below⟩
    ·
     try simp only [decide_eq_true_eq, decide_eq_false_iff_not, Bool.and_eq_true, Bool.or_eq_true, beq_iff_eq, bne_iff_ne, ne_eq, Bool.not_eq_true', Bool.not_eq_false', Decidable.not_not] at hb20
     refine wpl_off rfl rfl rfl rfl <| wpl_off rfl rfl rfl rfl <| wpl_on rfl rfl <| wpl_q (q_pure rfl) rfl <| wpl_q (q_pure rfl) rfl <| wpl_q (q_pure rfl) rfl <| wpl_on rfl rfl <| wpl_q (q_pure rfl) rfl <| wpl_on rfl rfl ?_
     refine wpl_q (q8_eql (b := (45 : UInt8)) rfl rfl) rfl ?_
     refine wpl_q (q_pure rfl) rfl <| wpl_q (q_pure rfl) rfl ?_
     refine wpl_bool2 29 27 rfl rfl (fun hb29 => ?_) (fun hb29 => ?_)
     ·
      try simp only [decide_eq_true_eq, decide_eq_false_iff_not, Bool.and_eq_true, Bool.or_eq_true, beq_iff_eq, bne_iff_ne, ne_eq, Bool.not_eq_true', Bool.not_eq_false', Decidable.not_not] at hb29
      refine wpl_off rfl rfl rfl rfl <| wpl_off rfl rfl rfl rfl <| wpl_q (q_pure rfl) rfl <| wpl_q (q_pure rfl) rfl <| wpl_nil <| ex_then <| wpc_ret ?_
      refine ret1 (.inl rfl) rfl rfl ?_
      exact fun w h => ⟨congrArg (fun b => Ending.returned (Value.bool b)) zz9, h.below⟩
     ·
      try simp only [decide_eq_true_eq, decide_eq_false_iff_not, Bool.and_eq_true, Bool.or_eq_true, beq_iff_eq, bne_iff_ne, ne_eq, Bool.not_eq_true', Bool.not_eq_false', Decidable.not_not] at hb29
      refine wpl_on rfl rfl <| wpl_q (q_pure rfl) rfl <| wpl_on rfl rfl ?_
      refine wpl_q (q8_eql (b := (95 : UInt8)) rfl rfl) rfl ?_
      refine wpl_q (q_pure rfl) rfl <| wpl_q (q_pure rfl) rfl <| wpl_nil <| ex_then <| wpc_ret ?_
      refine ret1 (.inl rfl) rfl rfl ?_
      exact fun w h => ⟨congrArg (fun b => Ending.returned (Value.bool b)) zz9, h.below⟩
end Go.Proofs.Ytgnablliekgbgaa
namespace Go.Proofs.Ytgnablliekgbgaa
open Go Go.PL Go.RowKit
theorem nameOk (xs : List UInt8) (w : World) (hxl : xs.length ≤ maxLen)  :
    Calls Try.prog 30 [str xs].toArray w (Pur w (.bool (nameF xs))) := by
  simp only [maxLen] at hxl
  refine enter (m := 25) (R := Mem w [] [] []) Try.func30 rfl rfl (Nat.le_of_ble_eq_true rfl) (Mem.start w) ?_
  refine wpc_seq <| wpc_region <| wpl_q (q_pure rfl) rfl <| wpl_nil <| ex_then <| wpc_seq <| wpc_region <| wpl_q (q_pure rfl) rfl <| wpl_nil <| ex_then <| wpc_seq <| wpc_seq ?_
  refine wpc_region <| wpl_q (q_pure rfl) rfl <| wpl_q (q_lenS Try.underlying9 rfl) rfl <| wpl_q (q_pure rfl) rfl <| wpl_nil <| ex_then <| wpc_block ?_
  refine wpc_loopc (ι := { x : Nat // (x ≤ xs.length) ∧ (∀ j, j < x → goodB (xs.getD j 0) = true) }) [(0, _), (3, _), (6, _)] (fun x Lc => (7, .int .i64 ((x.1 : Nat) : Int)) :: Lc) (fun x => Mem w [] [] []) (fun x => xs.length - x.1) ⟨0, ⟨Nat.zero_le _, fun j hj => zz11⟩⟩ zz7 ?_ ?_
  ·
   exact fun w h => h
  ·
   rintro ⟨i, ⟨hi0, hi1⟩⟩; try dsimp only
   have hi0 : i ≤ xs.length := hi0; have hi1 : ∀ j, j < i → goodB (xs.getD j 0) = true := hi1
   refine wpc_seq <| wpc_region <| wpl_q (q_pure rfl) rfl <| wpl_nil <| ex_then <| wpc_seq ?_
   refine wpc_cond rfl (fun hc8 => ?_) (fun hc8 => ?_)
   ·
    simp only [decide_eq_true_eq] at hc8
    have hil : i < xs.length := by omega
    refine wpc_skip <| ex_then <| wpc_seq <| wpc_block <| wpc_seq <| wpc_region <| wpl_q (q_pure rfl) rfl <| wpl_q (q_pure rfl) rfl <| wpl_nil <| ex_then <| wpc_seq <| wpc_region ?_
    refine wpl_q (q_pure rfl) rfl <| wpl_q (q_pure rfl) rfl <| wpl_q (q_pure rfl) rfl ?_
    refine wpl_q (q_strIdx Try.underlying9 rfl rfl zz0) rfl ?_
    refine wpl_t (t_purV rfl Try.hb63 rfl fun w h => good1 (xs.getD i 0) w) rfl (fun b14 => ?_)
    refine wpl_q (q_pure rfl) rfl <| wpl_nil <| ex_then ?_
    refine wpc_cond rfl (fun hc15 => ?_) (fun hc15 => ?_)
    ·
     have hg : goodB (xs.getD i 0) = false := by simpa using hc15
     refine wpc_seq <| wpc_region <| wpl_q (q_pure rfl) rfl <| wpl_nil <| ex_then <| wpc_ret ?_
     refine ex_block_ret ?_
     refine ex_then_ret ?_
     refine ex_then_ret ?_
     refine ex_block_ret ?_
     refine ex_then_ret ?_
     refine ret1 (.inl rfl) rfl rfl ?_
     exact fun w h => ⟨by rw [show nameF xs = false by exact name_bad hil hg], h.below⟩
    ·
     have hg : goodB (xs.getD i 0) = true := by simpa using hc15
     refine wpc_skip <| ex_block <| ex_then <| wpc_region ?_
     refine wpl_q (q_addN (b := 1) rfl rfl zz0) rfl ?_
     refine wpl_q (q_pure rfl) rfl <| wpl_nil ?_
     refine ex_again ⟨i + 1, ⟨by show i + 1 ≤ xs.length; omega, fun j hj => by rcases Nat.lt_or_ge j i with h | h; exact hi1 j h; obtain rfl : j = i := (by have hj : j < i + 1 := hj; omega); exact hg⟩⟩ ?_ ?_ ?_
     ·
      exact zz7
     ·
      exact fun w h => by first | exact h | exact h.sub SubC.h SubC.h | exact h.sub zz5 zz5
     ·
      (show xs.length - (i + 1) < xs.length - i); omega
   ·
    simp only [decide_eq_false_iff_not] at hc8
    obtain rfl : i = xs.length := by omega
    refine wpc_exit ?_
    refine ex_then_exit ?_
    refine ex_then_exit ?_
    refine ex_block_hit ?_
    refine ex_then <| wpc_seq <| wpc_region <| wpl_q (q_pure rfl) rfl <| wpl_q (q_lenS Try.underlying9 rfl) rfl <| wpl_q (q_pure rfl) rfl <| wpl_q (q_pure rfl) rfl ?_
    refine wpl_bool2 20 19 rfl rfl (fun hb20 => ?_) (fun hb20 => ?_)
    ·
     have hl1 : 1 ≤ xs.length := by have := of_decide_eq_true hb20; omega
     refine wpl_on rfl rfl <| wpl_q (q_pure rfl) rfl <| wpl_on rfl rfl <| wpl_q (q_lenS Try.underlying9 rfl) rfl <| wpl_on rfl rfl <| wpl_q (q_pure rfl) rfl <| wpl_q (q_pure rfl) rfl <| wpl_q (q_pure rfl) rfl <| wpl_nil <| ex_then <| wpc_ret ?_
     refine ret1 (.inl rfl) rfl rfl ?_
     exact fun w h => ⟨by rw [name_all hi1]; first | (rw [decide_eq_true hl1, Bool.true_and]; exact congrArg (fun b => Ending.returned (Value.bool b)) (decide_eq_decide.2 zz11)) | (rw [decide_eq_false hl0]; rfl), h.below⟩
    ·
     have hl0 : ¬ 1 ≤ xs.length := by have := of_decide_eq_false hb20; omega
     refine wpl_off rfl rfl rfl rfl <| wpl_off rfl rfl rfl rfl <| wpl_off rfl rfl rfl rfl <| wpl_q (q_pure rfl) rfl <| wpl_q (q_pure rfl) rfl <| wpl_nil <| ex_then <| wpc_ret ?_
     refine ret1 (.inl rfl) rfl rfl ?_
     exact fun w h => ⟨by rw [name_all hi1]; first | (rw [decide_eq_true hl1, Bool.true_and]; exact congrArg (fun b => Ending.returned (Value.bool b)) (decide_eq_decide.2 zz11)) | (rw [decide_eq_false hl0]; rfl), h.below⟩
theorem refName (xs : List UInt8) (w : World) (hxl : xs.length ≤ maxLen)  :
    Calls Try.prog 33 [str xs].toArray w (Pur w (.bool (nameF xs))) := by
  simp only [maxLen] at hxl
  refine enter (m := 53) (R := Mem w [] [] []) Try.func33 rfl rfl (Nat.le_of_ble_eq_true rfl) (Mem.start w) ?_
  refine wpc_seq <| wpc_region <| wpl_q (q_pure rfl) rfl <| wpl_nil <| ex_then <| wpc_seq <| wpc_seq <| wpc_region <| wpl_q (q_pure rfl) rfl <| wpl_q (q_lenS Try.underlying9 rfl) rfl <| wpl_q (q_pure rfl) rfl <| wpl_q (q_pure rfl) rfl ?_
  refine wpl_bool2 8 7 rfl rfl (fun hb8 => ?_) (fun hb8 => ?_)
  ·
   have hlen : xs.length = 0 ∨ 40 < xs.length := .inl (by have h := hb8; rw [beq_iff_eq] at h; omega)
   refine wpl_off rfl rfl rfl rfl <| wpl_off rfl rfl rfl rfl <| wpl_off rfl rfl rfl rfl <| wpl_q (q_pure rfl) rfl <| wpl_nil <| ex_then ?_
   refine wpc_cond_t rfl ?_
   refine wpc_seq <| wpc_region <| wpl_q (q_pure rfl) rfl <| wpl_nil <| ex_then <| wpc_ret ?_
   refine ex_then_ret ?_
   refine ret1 (.inl rfl) rfl rfl ?_
   exact fun w h => ⟨by rw [show nameF xs = false by exact name_len hlen], h.below⟩
  ·
   have hne : ¬ xs.length = 0 := by have h := hb8; rw [beq_eq_false_iff_ne] at h; omega
   refine wpl_on rfl rfl <| wpl_q (q_pure rfl) rfl <| wpl_on rfl rfl <| wpl_q (q_lenS Try.underlying9 rfl) rfl <| wpl_on rfl rfl <| wpl_q (q_pure rfl) rfl <| wpl_q (q_pure rfl) rfl <| wpl_nil <| ex_then ?_
   refine wpc_cond rfl (fun hc12 => ?_) (fun hc12 => ?_)
   ·
    have hlen : xs.length = 0 ∨ 40 < xs.length := .inr (by have := of_decide_eq_true hc12; omega)
    refine wpc_seq <| wpc_region <| wpl_q (q_pure rfl) rfl <| wpl_nil <| ex_then <| wpc_ret ?_
    refine ex_then_ret ?_
    refine ret1 (.inl rfl) rfl rfl ?_
    exact fun w h => ⟨by rw [show nameF xs = false by exact name_len hlen], h.below⟩
   ·
    have hlen : 1 ≤ xs.length ∧ xs.length ≤ 40 := by have := of_decide_eq_false hc12; omega
    refine wpc_skip <| ex_then <| wpc_seq <| wpc_seq <| wpc_region <| wpl_q (q_pure rfl) rfl <| wpl_nil <| ex_then <| wpc_block ?_
    refine wpc_loopc (ι := { x : Nat // (x ≤ xs.length) ∧ (∀ j, j < x → goodB (xs.getD j 0) = true) }) [(0, _)] (fun x Lc => (3, .int .i64 ((x.1 : Nat) : Int)) :: Lc) (fun x => Mem w [] [] []) (fun x => xs.length - x.1) ⟨0, ⟨Nat.zero_le _, fun j hj => zz11⟩⟩ zz7 ?_ ?_
    ·
     exact fun w h => h
    ·
     rintro ⟨i, ⟨hi0, hi1⟩⟩; try dsimp only
     have hi0 : i ≤ xs.length := hi0; have hi1 : ∀ j, j < i → goodB (xs.getD j 0) = true := hi1
     refine wpc_seq <| wpc_seq <| wpc_region <| wpl_q (q_pure rfl) rfl <| wpl_q (q_pure rfl) rfl <| wpl_q (q_lenS Try.underlying9 rfl) rfl <| wpl_q (q_pure rfl) rfl <| wpl_nil <| ex_then ?_
     refine wpc_cond rfl (fun hc16 => ?_) (fun hc16 => ?_)
     ·
      simp only [decide_eq_true_eq] at hc16
      have hil : i < xs.length := by omega
      refine wpc_skip <| ex_then <| wpc_seq <| wpc_block <| wpc_seq <| wpc_region <| wpl_q (q_pure rfl) rfl <| wpl_q (q_pure rfl) rfl ?_
      refine wpl_q (q_strIdx Try.underlying9 rfl rfl zz0) rfl ?_
      refine wpl_q (q_pure rfl) rfl <| wpl_nil <| ex_then ?_
      refine wpc_cutc ({ x : Unit // True }) [(0, str xs), (3, .int .i64 ((i : Nat) : Int))] (fun x Lc => (52, .bool (!goodB (xs.getD i 0))) :: Lc) (fun x => Mem w [] [] []) ?_ ?_
      ·
       refine wpc_region <| wpl_q (q_pure rfl) rfl <| wpl_q (q_pure rfl) rfl <| wpl_q (q_pure rfl) rfl ?_
       refine wpl_bool2 24 23 rfl rfl (fun hb24 => ?_) (fun hb24 => ?_)
       ·
        try simp only [decide_eq_true_eq, decide_eq_false_iff_not, Bool.and_eq_true, Bool.or_eq_true, beq_iff_eq, bne_iff_ne, ne_eq, Bool.not_eq_true', Bool.not_eq_false', Decidable.not_not] at hb24
        refine wpl_on rfl rfl <| wpl_q (q_pure rfl) rfl <| wpl_on rfl rfl <| wpl_q (q_pure rfl) rfl <| wpl_q (q_pure rfl) rfl <| wpl_q (q_pure rfl) rfl ?_
        refine wpl_bool2 28 26 rfl rfl (fun hb28 => ?_) (fun hb28 => ?_)
        ·
         try simp only [decide_eq_true_eq, decide_eq_false_iff_not, Bool.and_eq_true, Bool.or_eq_true, beq_iff_eq, bne_iff_ne, ne_eq, Bool.not_eq_true', Bool.not_eq_false', Decidable.not_not] at hb28
         refine wpl_off rfl rfl rfl rfl <| wpl_off rfl rfl rfl rfl <| wpl_off rfl rfl rfl rfl <| wpl_off rfl rfl rfl rfl <| wpl_off rfl rfl rfl rfl <| wpl_off rfl rfl rfl rfl <| wpl_q (q_pure rfl) rfl <| wpl_q (q_pure rfl) rfl <| wpl_off rfl rfl rfl rfl <| wpl_off rfl rfl rfl rfl <| wpl_off rfl rfl rfl rfl <| wpl_off rfl rfl rfl rfl ?_
         refine wpl_off rfl rfl rfl rfl <| wpl_off rfl rfl rfl rfl <| wpl_q (q_pure rfl) rfl <| wpl_q (q_pure rfl) rfl <| wpl_off rfl rfl rfl rfl <| wpl_off rfl rfl rfl rfl <| wpl_q (q_pure rfl) rfl <| wpl_q (q_pure rfl) rfl <| wpl_off rfl rfl rfl rfl <| wpl_off rfl rfl rfl rfl <| wpl_q (q_pure rfl) rfl <| wpl_q (q_pure rfl) rfl ?_
         refine wpl_re 52 rfl (congrArg Value.bool (show _ = !goodB (xs.getD i 0) by
           (try simp only [e45, e95] at *)
           first
           | (rw [show goodB (xs.getD i 0) = true from (goodB_iff _).2 zz11]; done)
           | (rw [show goodB (xs.getD i 0) = true from (goodB_iff _).2 zz11]; rfl)
           | (rw [show goodB (xs.getD i 0) = decide ((xs.getD i 0).toNat = 95) from zz14]))) ?_
         refine wpl_nil ?_
         refine ex_mid ⟨(), trivial⟩ ?_ ?_
         ·
          exact zz7
         ·
          exact fun w h => by first | exact h | exact h.sub SubC.h SubC.h | exact h.sub zz5 zz5
        ·
         try simp only [decide_eq_true_eq, decide_eq_false_iff_not, Bool.and_eq_true, Bool.or_eq_true, beq_iff_eq, bne_iff_ne, ne_eq, Bool.not_eq_true', Bool.not_eq_false', Decidable.not_not] at hb28
         refine wpl_on rfl rfl <| wpl_q (q_pure rfl) rfl <| wpl_on rfl rfl <| wpl_q (q_pure rfl) rfl <| wpl_on rfl rfl <| wpl_q (q_pure rfl) rfl ?_
         refine wpl_bool2 31 30 rfl rfl (fun hb31 => ?_) (fun hb31 => ?_)
         ·
          try simp only [decide_eq_true_eq, decide_eq_false_iff_not, Bool.and_eq_true, Bool.or_eq_true, beq_iff_eq, bne_iff_ne, ne_eq, Bool.not_eq_true', Bool.not_eq_false', Decidable.not_not] at hb31
          refine wpl_on rfl rfl <| wpl_q (q_pure rfl) rfl <| wpl_on rfl rfl <| wpl_q (q_pure rfl) rfl <| wpl_on rfl rfl <| wpl_q (q_pure rfl) rfl <| wpl_q (q_pure rfl) rfl <| wpl_q (q_pure rfl) rfl ?_
          refine wpl_bool2 36 33 rfl rfl (fun hb36 => ?_) (fun hb36 => ?_)
          ·
           try simp only [decide_eq_true_eq, decide_eq_false_iff_not, Bool.and_eq_true, Bool.or_eq_true, beq_iff_eq, bne_iff_ne, ne_eq, Bool.not_eq_true', Bool.not_eq_false', Decidable.not_not] at hb36
           refine wpl_off rfl rfl rfl rfl <| wpl_off rfl rfl rfl rfl <| wpl_off rfl rfl rfl rfl <| wpl_off rfl rfl rfl rfl <| wpl_off rfl rfl rfl rfl <| wpl_off rfl rfl rfl rfl <| wpl_q (q_pure rfl) rfl <| wpl_q (q_pure rfl) rfl <| wpl_off rfl rfl rfl rfl <| wpl_off rfl rfl rfl rfl <| wpl_q (q_pure rfl) rfl <| wpl_q (q_pure rfl) rfl ?_
           refine wpl_off rfl rfl rfl rfl <| wpl_off rfl rfl rfl rfl <| wpl_q (q_pure rfl) rfl <| wpl_q (q_pure rfl) rfl ?_
           refine wpl_re 52 rfl (congrArg Value.bool (show _ = !goodB (xs.getD i 0) by
             (try simp only [e45, e95] at *)
             first
             | (rw [show goodB (xs.getD i 0) = true from (goodB_iff _).2 zz11]; done)
             | (rw [show goodB (xs.getD i 0) = true from (goodB_iff _).2 zz11]; rfl)
             | (rw [show goodB (xs.getD i 0) = decide ((xs.getD i 0).toNat = 95) from zz14]))) ?_
           refine wpl_nil ?_
           refine ex_mid ⟨(), trivial⟩ ?_ ?_
           ·
            exact zz7
           ·
            exact fun w h => by first | exact h | exact h.sub SubC.h SubC.h | exact h.sub zz5 zz5
          ·
           try simp only [decide_eq_true_eq, decide_eq_false_iff_not, Bool.and_eq_true, Bool.or_eq_true, beq_iff_eq, bne_iff_ne, ne_eq, Bool.not_eq_true', Bool.not_eq_false', Decidable.not_not] at hb36
           refine wpl_on rfl rfl <| wpl_q (q_pure rfl) rfl <| wpl_on rfl rfl <| wpl_q (q_pure rfl) rfl <| wpl_on rfl rfl <| wpl_q (q_pure rfl) rfl ?_
           refine wpl_bool2 39 38 rfl rfl (fun hb39 => ?_) (fun hb39 => ?_)
           ·
            try simp only [decide_eq_true_eq, decide_eq_false_iff_not, Bool.and_eq_true, Bool.or_eq_true, beq_iff_eq, bne_iff_ne, ne_eq, Bool.not_eq_true', Bool.not_eq_false', Decidable.not_not] at hb39
            refine wpl_on rfl rfl <| wpl_q (q_pure rfl) rfl <| wpl_on rfl rfl <| wpl_q (q_pure rfl) rfl <| wpl_on rfl rfl <| wpl_q (q_pure rfl) rfl <| wpl_q (q_pure rfl) rfl <| wpl_q (q_pure rfl) rfl ?_
            refine wpl_bool2 44 41 rfl rfl (fun hb44 => ?_) (fun hb44 => ?_)
            ·
             try simp only [decide_eq_true_eq, decide_eq_false_iff_not, Bool.and_eq_true, Bool.or_eq_true, beq_iff_eq, bne_iff_ne, ne_eq, Bool.not_eq_true', Bool.not_eq_false', Decidable.not_not] at hb44
             refine wpl_off rfl rfl rfl rfl <| wpl_off rfl rfl rfl rfl <| wpl_q (q_pure rfl) rfl <| wpl_q (q_pure rfl) rfl <| wpl_off rfl rfl rfl rfl <| wpl_off rfl rfl rfl rfl <| wpl_q (q_pure rfl) rfl <| wpl_q (q_pure rfl) rfl ?_
             refine wpl_re 52 rfl (congrArg Value.bool (show _ = !goodB (xs.getD i 0) by
               (try simp only [e45, e95] at *)
               first
               | (rw [show goodB (xs.getD i 0) = true from (goodB_iff _).2 zz11]; done)
               | (rw [show goodB (xs.getD i 0) = true from (goodB_iff _).2 zz11]; rfl)
               | (rw [show goodB (xs.getD i 0) = decide ((xs.getD i 0).toNat = 95) from zz14]))) ?_
             refine wpl_nil ?_
             refine ex_mid ⟨(), trivial⟩ ?_ ?_
             ·
              exact zz7
             ·
              exact fun w h => by first | exact h | exact h.sub SubC.h SubC.h | exact h.sub zz5 zz5
            ·
             try simp only [decide_eq_true_eq, decide_eq_false_iff_not, Bool.and_eq_true, Bool.or_eq_true, beq_iff_eq, bne_iff_ne, ne_eq, Bool.not_eq_true', Bool.not_eq_false', Decidable.not_not] at hb44
             refine wpl_on rfl rfl <| wpl_q (q_pure rfl) rfl <| wpl_on rfl rfl ?_
             refine wpl_q (q8_eql (b := (45 : UInt8)) rfl rfl) rfl ?_
             refine wpl_q (q_pure rfl) rfl <| wpl_q (q_pure rfl) rfl ?_
             refine wpl_bool2 48 46 rfl rfl (fun hb48 => ?_) (fun hb48 => ?_)
             ·
              try simp only [decide_eq_true_eq, decide_eq_false_iff_not, Bool.and_eq_true, Bool.or_eq_true, beq_iff_eq, bne_iff_ne, ne_eq, Bool.not_eq_true', Bool.not_eq_false', Decidable.not_not] at hb48
              refine wpl_off rfl rfl rfl rfl <| wpl_off rfl rfl rfl rfl <| wpl_q (q_pure rfl) rfl <| wpl_q (q_pure rfl) rfl ?_
              refine wpl_re 52 rfl (congrArg Value.bool (show _ = !goodB (xs.getD i 0) by
                (try simp only [e45, e95] at *)
                first
                | (rw [show goodB (xs.getD i 0) = true from (goodB_iff _).2 zz11]; done)
                | (rw [show goodB (xs.getD i 0) = true from (goodB_iff _).2 zz11]; rfl)
                | (rw [show goodB (xs.getD i 0) = decide ((xs.getD i 0).toNat = 95) from zz14]))) ?_
              refine wpl_nil ?_
              refine ex_mid ⟨(), trivial⟩ ?_ ?_
              ·
               exact zz7
              ·
               exact fun w h => by first | exact h | exact h.sub SubC.h SubC.h | exact h.sub zz5 zz5
             ·
              try simp only [decide_eq_true_eq, decide_eq_false_iff_not, Bool.and_eq_true, Bool.or_eq_true, beq_iff_eq, bne_iff_ne, ne_eq, Bool.not_eq_true', Bool.not_eq_false', Decidable.not_not] at hb48
              refine wpl_on rfl rfl <| wpl_q (q_pure rfl) rfl <| wpl_on rfl rfl ?_
              refine wpl_q (q8_eql (b := (95 : UInt8)) rfl rfl) rfl ?_
              refine wpl_q (q_pure rfl) rfl <| wpl_q (q_pure rfl) rfl ?_
              refine wpl_re 52 rfl (congrArg Value.bool (show _ = !goodB (xs.getD i 0) by
                (try simp only [e45, e95] at *)
                first
                | (rw [show goodB (xs.getD i 0) = true from (goodB_iff _).2 zz11]; done)
                | (rw [show goodB (xs.getD i 0) = true from (goodB_iff _).2 zz11]; rfl)
                | (rw [show goodB (xs.getD i 0) = decide ((xs.getD i 0).toNat = 95) from zz14]))) ?_
              refine wpl_nil ?_
              refine ex_mid ⟨(), trivial⟩ ?_ ?_
              ·
               exact zz7
              ·
               exact fun w h => by first | exact h | exact h.sub SubC.h SubC.h | exact h.sub zz5 zz5
           ·
            try simp only [decide_eq_true_eq, decide_eq_false_iff_not, Bool.and_eq_true, Bool.or_eq_true, beq_iff_eq, bne_iff_ne, ne_eq, Bool.not_eq_true', Bool.not_eq_false', Decidable.not_not] at hb39
            refine wpl_off rfl rfl rfl rfl <| wpl_off rfl rfl rfl rfl <| wpl_on rfl rfl <| wpl_q (q_pure rfl) rfl <| wpl_q (q_pure rfl) rfl <| wpl_q (q_pure rfl) rfl <| wpl_on rfl rfl <| wpl_q (q_pure rfl) rfl <| wpl_on rfl rfl ?_
            refine wpl_q (q8_eql (b := (45 : UInt8)) rfl rfl) rfl ?_
            refine wpl_q (q_pure rfl) rfl <| wpl_q (q_pure rfl) rfl ?_
            refine wpl_bool2 48 46 rfl rfl (fun hb48 => ?_) (fun hb48 => ?_)
            ·
             try simp only [decide_eq_true_eq, decide_eq_false_iff_not, Bool.and_eq_true, Bool.or_eq_true, beq_iff_eq, bne_iff_ne, ne_eq, Bool.not_eq_true', Bool.not_eq_false', Decidable.not_not] at hb48
             refine wpl_off rfl rfl rfl rfl <| wpl_off rfl rfl rfl rfl <| wpl_q (q_pure rfl) rfl <| wpl_q (q_pure rfl) rfl ?_
             refine wpl_re 52 rfl (congrArg Value.bool (show _ = !goodB (xs.getD i 0) by
               (try simp only [e45, e95] at *)
               first
               | (rw [show goodB (xs.getD i 0) = true from (goodB_iff _).2 zz11]; done)
               | (rw [show goodB (xs.getD i 0) = true from (goodB_iff _).2 zz11]; rfl)
               | (rw [show goodB (xs.getD i 0) = decide ((xs.getD i 0).toNat = 95) from zz14]))) ?_
             refine wpl_nil ?_
             refine ex_mid ⟨(), trivial⟩ ?_ ?_
             ·
              exact zz7
             ·
              exact fun w h => by first | exact h | exact h.sub SubC.h SubC.h | exact h.sub zz5 zz5
            ·
             try simp only [decide_eq_true_eq, decide_eq_false_iff_not, Bool.and_eq_true, Bool.or_eq_true, beq_iff_eq, bne_iff_ne, ne_eq, Bool.not_eq_true', Bool.not_eq_false', Decidable.not_not] at hb48
             refine wpl_on rfl rfl <| wpl_q (q_pure rfl) rfl <| wpl_on rfl rfl ?_
             refine wpl_q (q8_eql (b := (95 : UInt8)) rfl rfl) rfl ?_
             refine wpl_q (q_pure rfl) rfl <| wpl_q (q_pure rfl) rfl ?_
             refine wpl_re 52 rfl (congrArg Value.bool (show _ = !goodB (xs.getD i 0) by
               (try simp only [e45, e95] at *)
               first
               | (rw [show goodB (xs.getD i 0) = true from (goodB_iff _).2 zz11]; done)
               | (rw [show goodB (xs.getD i 0) = true from (goodB_iff _).2 zz11]; rfl)
               | (rw [show goodB (xs.getD i 0) = decide ((xs.getD i 0).toNat = 95) from zz14]))) ?_
             refine wpl_nil ?_
             refine ex_mid ⟨(), trivial⟩ ?_ ?_
             ·
              exact zz7
             ·
              exact fun w h => by first | exact h | exact h.sub SubC.h SubC.h | exact h.sub zz5 zz5
         ·
          try simp only [decide_eq_true_eq, decide_eq_false_iff_not, Bool.and_eq_true, Bool.or_eq_true, beq_iff_eq, bne_iff_ne, ne_eq, Bool.not_eq_true', Bool.not_eq_false', Decidable.not_not] at hb31
          refine wpl_off rfl rfl rfl rfl <| wpl_off rfl rfl rfl rfl <| wpl_on rfl rfl <| wpl_q (q_pure rfl) rfl <| wpl_q (q_pure rfl) rfl <| wpl_q (q_pure rfl) rfl <| wpl_on rfl rfl <| wpl_q (q_pure rfl) rfl <| wpl_on rfl rfl <| wpl_q (q_pure rfl) rfl <| wpl_on rfl rfl <| wpl_q (q_pure rfl) rfl ?_
          refine wpl_bool2 39 38 rfl rfl (fun hb39 => ?_) (fun hb39 => ?_)
          ·
           try simp only [decide_eq_true_eq, decide_eq_false_iff_not, Bool.and_eq_true, Bool.or_eq_true, beq_iff_eq, bne_iff_ne, ne_eq, Bool.not_eq_true', Bool.not_eq_false', Decidable.not_not] at hb39
           refine wpl_on rfl rfl <| wpl_q (q_pure rfl) rfl <| wpl_on rfl rfl <| wpl_q (q_pure rfl) rfl <| wpl_on rfl rfl <| wpl_q (q_pure rfl) rfl <| wpl_q (q_pure rfl) rfl <| wpl_q (q_pure rfl) rfl ?_
           refine wpl_bool2 44 41 rfl rfl (fun hb44 => ?_) (fun hb44 => ?_)
           ·
            try simp only [decide_eq_true_eq, decide_eq_false_iff_not, Bool.and_eq_true, Bool.or_eq_true, beq_iff_eq, bne_iff_ne, ne_eq, Bool.not_eq_true', Bool.not_eq_false', Decidable.not_not] at hb44
            refine wpl_off rfl rfl rfl rfl <| wpl_off rfl rfl rfl rfl <| wpl_q (q_pure rfl) rfl <| wpl_q (q_pure rfl) rfl <| wpl_off rfl rfl rfl rfl <| wpl_off rfl rfl rfl rfl <| wpl_q (q_pure rfl) rfl <| wpl_q (q_pure rfl) rfl ?_
            refine wpl_re 52 rfl (congrArg Value.bool (show _ = !goodB (xs.getD i 0) by
              (try simp only [e45, e95] at *)
              first
              | (rw [show goodB (xs.getD i 0) = true from (goodB_iff _).2 zz11]; done)
              | (rw [show goodB (xs.getD i 0) = true from (goodB_iff _).2 zz11]; rfl)
              | (rw [show goodB (xs.getD i 0) = decide ((xs.getD i 0).toNat = 95) from zz14]))) ?_
            refine wpl_nil ?_
            refine ex_mid ⟨(), trivial⟩ ?_ ?_
            ·
             exact zz7
            ·
             exact fun w h => by first | exact h | exact h.sub SubC.h SubC.h | exact h.sub zz5 zz5
           ·
            try simp only [decide_eq_true_eq, decide_eq_false_iff_not, Bool.and_eq_true, Bool.or_eq_true, beq_iff_eq, bne_iff_ne, ne_eq, Bool.not_eq_true', Bool.not_eq_false', Decidable.not_not] at hb44
            refine wpl_on rfl rfl <| wpl_q (q_pure rfl) rfl <| wpl_on rfl rfl ?_
            refine wpl_q (q8_eql (b := (45 : UInt8)) rfl rfl) rfl ?_
            refine wpl_q (q_pure rfl) rfl <| wpl_q (q_pure rfl) rfl ?_
            refine wpl_bool2 48 46 rfl rfl (fun hb48 => ?_) (fun hb48 => ?_)
            ·
             try simp only [decide_eq_true_eq, decide_eq_false_iff_not, Bool.and_eq_true, Bool.or_eq_true, beq_iff_eq, bne_iff_ne, ne_eq, Bool.not_eq_true', Bool.not_eq_false', Decidable.not_not] at hb48
             refine wpl_off rfl rfl rfl rfl <| wpl_off rfl rfl rfl rfl <| wpl_q (q_pure rfl) rfl <| wpl_q (q_pure rfl) rfl ?_
             refine wpl_re 52 rfl (congrArg Value.bool (show _ = !goodB (xs.getD i 0) by
               (try simp only [e45, e95] at *)
               first
               | (rw [show goodB (xs.getD i 0) = true from (goodB_iff _).2 zz11]; done)
               | (rw [show goodB (xs.getD i 0) = true from (goodB_iff _).2 zz11]; rfl)
               | (rw [show goodB (xs.getD i 0) = decide ((xs.getD i 0).toNat = 95) from zz14]))) ?_
             refine wpl_nil ?_
             refine ex_mid ⟨(), trivial⟩ ?_ ?_
             ·
              exact zz7
             ·
              exact fun w h => by first | exact h | exact h.sub SubC.h SubC.h | exact h.sub zz5 zz5
            ·
             try simp only [decide_eq_true_eq, decide_eq_false_iff_not, Bool.and_eq_true, Bool.or_eq_true, beq_iff_eq, bne_iff_ne, ne_eq, Bool.not_eq_true', Bool.not_eq_false', Decidable.not_not] at hb48
             refine wpl_on rfl rfl <| wpl_q (q_pure rfl) rfl <| wpl_on rfl rfl ?_
             refine wpl_q (q8_eql (b := (95 : UInt8)) rfl rfl) rfl ?_
             refine wpl_q (q_pure rfl) rfl <| wpl_q (q_pure rfl) rfl ?_
             refine wpl_re 52 rfl (congrArg Value.bool (show _ = !goodB (xs.getD i 0) by
               (try simp only [e45, e95] at *)
               first
               | (rw [show goodB (xs.getD i 0) = true from (goodB_iff _).2 zz11]; done)
               | (rw [show goodB (xs.getD i 0) = true from (goodB_iff _).2 zz11]; rfl)
               | (rw [show goodB (xs.getD i 0) = decide ((xs.getD i 0).toNat = 95) from zz14]))) ?_
             refine wpl_nil ?_
             refine ex_mid ⟨(), trivial⟩ ?_ ?_
             ·
              exact zz7
             ·
              exact fun w h => by first | exact h | exact h.sub SubC.h SubC.h | exact h.sub zz5 zz5
          ·
           try simp only [decide_eq_true_eq, decide_eq_false_iff_not, Bool.and_eq_true, Bool.or_eq_true, beq_iff_eq, bne_iff_ne, ne_eq, Bool.not_eq_true', Bool.not_eq_false', Decidable.not_not] at hb39
           refine wpl_off rfl rfl rfl rfl <| wpl_off rfl rfl rfl rfl <| wpl_on rfl rfl <| wpl_q (q_pure rfl) rfl <| wpl_q (q_pure rfl) rfl <| wpl_q (q_pure rfl) rfl <| wpl_on rfl rfl <| wpl_q (q_pure rfl) rfl <| wpl_on rfl rfl ?_
           refine wpl_q (q8_eql (b := (45 : UInt8)) rfl rfl) rfl ?_
           refine wpl_q (q_pure rfl) rfl <| wpl_q (q_pure rfl) rfl ?_
           refine wpl_bool2 48 46 rfl rfl (fun hb48 => ?_) (fun hb48 => ?_)
           ·
            try simp only [decide_eq_true_eq, decide_eq_false_iff_not, Bool.and_eq_true, Bool.or_eq_true, beq_iff_eq, bne_iff_ne, ne_eq, Bool.not_eq_true', Bool.not_eq_false', Decidable.not_not] at hb48
            refine wpl_off rfl rfl rfl rfl <| wpl_off rfl rfl rfl rfl <| wpl_q (q_pure rfl) rfl <| wpl_q (q_pure rfl) rfl ?_
            refine wpl_re 52 rfl (congrArg Value.bool (show _ = !goodB (xs.getD i 0) by
              (try simp only [e45, e95] at *)
              first
              | (rw [show goodB (xs.getD i 0) = true from (goodB_iff _).2 zz11]; done)
              | (rw [show goodB (xs.getD i 0) = true from (goodB_iff _).2 zz11]; rfl)
              | (rw [show goodB (xs.getD i 0) = decide ((xs.getD i 0).toNat = 95) from zz14]))) ?_
            refine wpl_nil ?_
            refine ex_mid ⟨(), trivial⟩ ?_ ?_
            ·
             exact zz7
            ·
             exact fun w h => by first | exact h | exact h.sub SubC.h SubC.h | exact h.sub zz5 zz5
           ·
            try simp only [decide_eq_true_eq, decide_eq_false_iff_not, Bool.and_eq_true, Bool.or_eq_true, beq_iff_eq, bne_iff_ne, ne_eq, Bool.not_eq_true', Bool.not_eq_false', Decidable.not_not] at hb48
            refine wpl_on rfl rfl <| wpl_q (q_pure rfl) rfl <| wpl_on rfl rfl ?_
            refine wpl_q (q8_eql (b := (95 : UInt8)) rfl rfl) rfl ?_
            refine wpl_q (q_pure rfl) rfl <| wpl_q (q_pure rfl) rfl ?_
            refine wpl_re 52 rfl (congrArg Value.bool (show _ = !goodB (xs.getD i 0) by
              (try simp only [e45, e95] at *)
              first
              | (rw [show goodB (xs.getD i 0) = true from (goodB_iff _).2 zz11]; done)
              | (rw [show goodB (xs.getD i 0) = true from (goodB_iff _).2 zz11]; rfl)
              | (rw [show goodB (xs.getD i 0) = decide ((xs.getD i 0).toNat = 95) from zz14]))) ?_
            refine wpl_nil ?_
            refine ex_mid ⟨(), trivial⟩ ?_ ?_
            ·
             exact zz7
            ·
             exact fun w h => by first | exact h | exact h.sub SubC.h SubC.h | exact h.sub zz5 zz5
       ·
        try simp only [decide_eq_true_eq, decide_eq_false_iff_not, Bool.and_eq_true, Bool.or_eq_true, beq_iff_eq, bne_iff_ne, ne_eq, Bool.not_eq_true', Bool.not_eq_false', Decidable.not_not] at hb24
        refine wpl_off rfl rfl rfl rfl <| wpl_off rfl rfl rfl rfl <| wpl_q (q_pure rfl) rfl <| wpl_q (q_pure rfl) rfl <| wpl_on rfl rfl <| wpl_q (q_pure rfl) rfl <| wpl_on rfl rfl <| wpl_q (q_pure rfl) rfl <| wpl_on rfl rfl <| wpl_q (q_pure rfl) rfl ?_
        refine wpl_bool2 31 30 rfl rfl (fun hb31 => ?_) (fun hb31 => ?_)
        ·
         try simp only [decide_eq_true_eq, decide_eq_false_iff_not, Bool.and_eq_true, Bool.or_eq_true, beq_iff_eq, bne_iff_ne, ne_eq, Bool.not_eq_true', Bool.not_eq_false', Decidable.not_not] at hb31
         refine wpl_on rfl rfl <| wpl_q (q_pure rfl) rfl <| wpl_on rfl rfl <| wpl_q (q_pure rfl) rfl <| wpl_on rfl rfl <| wpl_q (q_pure rfl) rfl <| wpl_q (q_pure rfl) rfl <| wpl_q (q_pure rfl) rfl ?_
         refine wpl_bool2 36 33 rfl rfl (fun hb36 => ?_) (fun hb36 => ?_)
         ·
          try simp only [decide_eq_true_eq, decide_eq_false_iff_not, Bool.and_eq_true, Bool.or_eq_true, beq_iff_eq, bne_iff_ne, ne_eq, Bool.not_eq_true', Bool.not_eq_false', Decidable.not_not] at hb36
          refine wpl_off rfl rfl rfl rfl <| wpl_off rfl rfl rfl rfl <| wpl_off rfl rfl rfl rfl <| wpl_off rfl rfl rfl rfl <| wpl_off rfl rfl rfl rfl <| wpl_off rfl rfl rfl rfl <| wpl_q (q_pure rfl) rfl <| wpl_q (q_pure rfl) rfl <| wpl_off rfl rfl rfl rfl <| wpl_off rfl rfl rfl rfl <| wpl_q (q_pure rfl) rfl <| wpl_q (q_pure rfl) rfl ?_
          refine wpl_off rfl rfl rfl rfl <| wpl_off rfl rfl rfl rfl <| wpl_q (q_pure rfl) rfl <| wpl_q (q_pure rfl) rfl ?_
          refine wpl_re 52 rfl (congrArg Value.bool (show _ = !goodB (xs.getD i 0) by
            (try simp only [e45, e95] at *)
            first
            | (rw [show goodB (xs.getD i 0) = true from (goodB_iff _).2 zz11]; done)
            | (rw [show goodB (xs.getD i 0) = true from (goodB_iff _).2 zz11]; rfl)
            | (rw [show goodB (xs.getD i 0) = decide ((xs.getD i 0).toNat = 95) from zz14]))) ?_
          refine wpl_nil ?_
          refine ex_mid ⟨(), trivial⟩ ?_ ?_
          ·
           exact zz7
          ·
           exact fun w h => by first | exact h | exact h.sub SubC.h SubC.h | exact h.sub zz5 zz5
         ·
          try simp only [decide_eq_true_eq, decide_eq_false_iff_not, Bool.and_eq_true, Bool.or_eq_true, beq_iff_eq, bne_iff_ne, ne_eq, Bool.not_eq_true', Bool.not_eq_false', Decidable.not_not] at hb36
          refine wpl_on rfl rfl <| wpl_q (q_pure rfl) rfl <| wpl_on rfl rfl <| wpl_q (q_pure rfl) rfl <| wpl_on rfl rfl <| wpl_q (q_pure rfl) rfl ?_
          refine wpl_bool2 39 38 rfl rfl (fun hb39 => ?_) (fun hb39 => ?_)
          ·
           try simp only [decide_eq_true_eq, decide_eq_false_iff_not, Bool.and_eq_true, Bool.or_eq_true, beq_iff_eq, bne_iff_ne, ne_eq, Bool.not_eq_true', Bool.not_eq_false', Decidable.not_not] at hb39
           refine wpl_on rfl rfl <| wpl_q (q_pure rfl) rfl <| wpl_on rfl rfl <| wpl_q (q_pure rfl) rfl <| wpl_on rfl rfl <| wpl_q (q_pure rfl) rfl <| wpl_q (q_pure rfl) rfl <| wpl_q (q_pure rfl) rfl ?_
           refine wpl_bool2 44 41 rfl rfl (fun hb44 => ?_) (fun hb44 => ?_)
           ·
            try simp only [decide_eq_true_eq, decide_eq_false_iff_not, Bool.and_eq_true, Bool.or_eq_true, beq_iff_eq, bne_iff_ne, ne_eq, Bool.not_eq_true', Bool.not_eq_false', Decidable.not_not] at hb44
            refine wpl_off rfl rfl rfl rfl <| wpl_off rfl rfl rfl rfl <| wpl_q (q_pure rfl) rfl <| wpl_q (q_pure rfl) rfl <| wpl_off rfl rfl rfl rfl <| wpl_off rfl rfl rfl rfl <| wpl_q (q_pure rfl) rfl <| wpl_q (q_pure rfl) rfl ?_
            refine wpl_re 52 rfl (congrArg Value.bool (show _ = !goodB (xs.getD i 0) by
              (try simp only [e45, e95] at *)
              first
              | (rw [show goodB (xs.getD i 0) = true from (goodB_iff _).2 zz11]; done)
              | (rw [show goodB (xs.getD i 0) = true from (goodB_iff _).2 zz11]; rfl)
              | (rw [show goodB (xs.getD i 0) = decide ((xs.getD i 0).toNat = 95) from zz14]))) ?_
            refine wpl_nil ?_
            refine ex_mid ⟨(), trivial⟩ ?_ ?_
            ·
             exact zz7
            ·
             exact fun w h => by first | exact h | exact h.sub SubC.h SubC.h | exact h.sub zz5 zz5
           ·
            try simp only [decide_eq_true_eq, decide_eq_false_iff_not, Bool.and_eq_true, Bool.or_eq_true, beq_iff_eq, bne_iff_ne, ne_eq, Bool.not_eq_true', Bool.not_eq_false', Decidable.not_not] at hb44
            refine wpl_on rfl rfl <| wpl_q (q_pure rfl) rfl <| wpl_on rfl rfl ?_
            refine wpl_q (q8_eql (b := (45 : UInt8)) rfl rfl) rfl ?_
            refine wpl_q (q_pure rfl) rfl <| wpl_q (q_pure rfl) rfl ?_
            refine wpl_bool2 48 46 rfl rfl (fun hb48 => ?_) (fun hb48 => ?_)
            ·
             try simp only [decide_eq_true_eq, decide_eq_false_iff_not, Bool.and_eq_true, Bool.or_eq_true, beq_iff_eq, bne_iff_ne, ne_eq, Bool.not_eq_true', Bool.not_eq_false', Decidable.not_not] at hb48
             refine wpl_off rfl rfl rfl rfl <| wpl_off rfl rfl rfl rfl <| wpl_q (q_pure rfl) rfl <| wpl_q (q_pure rfl) rfl ?_
             refine wpl_re 52 rfl (congrArg Value.bool (show _ = !goodB (xs.getD i 0) by
               (try simp only [e45, e95] at *)
               first
               | (rw [show goodB (xs.getD i 0) = true from (goodB_iff _).2 zz11]; done)
               | (rw [show goodB (xs.getD i 0) = true from (goodB_iff _).2 zz11]; rfl)
               | (rw [show goodB (xs.getD i 0) = decide ((xs.getD i 0).toNat = 95) from zz14]))) ?_
             refine wpl_nil ?_
             refine ex_mid ⟨(), trivial⟩ ?_ ?_
             ·
              exact zz7
             ·
              exact fun w h => by first | exact h | exact h.sub SubC.h SubC.h | exact h.sub zz5 zz5
            ·
             try simp only [decide_eq_true_eq, decide_eq_false_iff_not, Bool.and_eq_true, Bool.or_eq_true, beq_iff_eq, bne_iff_ne, ne_eq, Bool.not_eq_true', Bool.not_eq_false', Decidable.not_not] at hb48
             refine wpl_on rfl rfl <| wpl_q (q_pure rfl) rfl <| wpl_on rfl rfl ?_
             refine wpl_q (q8_eql (b := (95 : UInt8)) rfl rfl) rfl ?_
             refine wpl_q (q_pure rfl) rfl <| wpl_q (q_pure rfl) rfl ?_
             refine wpl_re 52 rfl (congrArg Value.bool (show _ = !goodB (xs.getD i 0) by
               (try simp only [e45, e95] at *)
               first
               | (rw [show goodB (xs.getD i 0) = true from (goodB_iff _).2 zz11]; done)
               | (rw [show goodB (xs.getD i 0) = true from (goodB_iff _).2 zz11]; rfl)
               | (rw [show goodB (xs.getD i 0) = decide ((xs.getD i 0).toNat = 95) from zz14]))) ?_
             refine wpl_nil ?_
             refine ex_mid ⟨(), trivial⟩ ?_ ?_
             ·
              exact zz7
             ·
              exact fun w h => by first | exact h | exact h.sub SubC.h SubC.h | exact h.sub zz5 zz5
          ·
           try simp only [decide_eq_true_eq, decide_eq_false_iff_not, Bool.and_eq_true, Bool.or_eq_true, beq_iff_eq, bne_iff_ne, ne_eq, Bool.not_eq_true', Bool.not_eq_false', Decidable.not_not] at hb39
           refine wpl_off rfl rfl rfl rfl <| wpl_off rfl rfl rfl rfl <| wpl_on rfl rfl <| wpl_q (q_pure rfl) rfl <| wpl_q (q_pure rfl) rfl <| wpl_q (q_pure rfl) rfl <| wpl_on rfl rfl <| wpl_q (q_pure rfl) rfl <| wpl_on rfl rfl ?_
           refine wpl_q (q8_eql (b := (45 : UInt8)) rfl rfl) rfl ?_
           refine wpl_q (q_pure rfl) rfl <| wpl_q (q_pure rfl) rfl ?_
           refine wpl_bool2 48 46 rfl rfl (fun hb48 => ?_) (fun hb48 => ?_)
           ·
            try simp only [decide_eq_true_eq, decide_eq_false_iff_not, Bool.and_eq_true, Bool.or_eq_true, beq_iff_eq, bne_iff_ne, ne_eq, Bool.not_eq_true', Bool.not_eq_false', Decidable.not_not] at hb48
            refine wpl_off rfl rfl rfl rfl <| wpl_off rfl rfl rfl rfl <| wpl_q (q_pure rfl) rfl <| wpl_q (q_pure rfl) rfl ?_
            refine wpl_re 52 rfl (congrArg Value.bool (show _ = !goodB (xs.getD i 0) by
              (try simp only [e45, e95] at *)
              first
              | (rw [show goodB (xs.getD i 0) = true from (goodB_iff _).2 zz11]; done)
              | (rw [show goodB (xs.getD i 0) = true from (goodB_iff _).2 zz11]; rfl)
              | (rw [show goodB (xs.getD i 0) = decide ((xs.getD i 0).toNat = 95) from zz14]))) ?_
            refine wpl_nil ?_
            refine ex_mid ⟨(), trivial⟩ ?_ ?_
            ·
             exact zz7
            ·
             exact fun w h => by first | exact h | exact h.sub SubC.h SubC.h | exact h.sub zz5 zz5
           ·
            try simp only [decide_eq_true_eq, decide_eq_false_iff_not, Bool.and_eq_true, Bool.or_eq_true, beq_iff_eq, bne_iff_ne, ne_eq, Bool.not_eq_true', Bool.not_eq_false', Decidable.not_not] at hb48
            refine wpl_on rfl rfl <| wpl_q (q_pure rfl) rfl <| wpl_on rfl rfl ?_
            refine wpl_q (q8_eql (b := (95 : UInt8)) rfl rfl) rfl ?_
            refine wpl_q (q_pure rfl) rfl <| wpl_q (q_pure rfl) rfl ?_
            refine wpl_re 52 rfl (congrArg Value.bool (show _ = !goodB (xs.getD i 0) by
              (try simp only [e45, e95] at *)
              first
              | (rw [show goodB (xs.getD i 0) = true from (goodB_iff _).2 zz11]; done)
              | (rw [show goodB (xs.getD i 0) = true from (goodB_iff _).2 zz11]; rfl)
              | (rw [show goodB (xs.getD i 0) = decide ((xs.getD i 0).toNat = 95) from zz14]))) ?_
            refine wpl_nil ?_
            refine ex_mid ⟨(), trivial⟩ ?_ ?_
            ·
             exact zz7
            ·
             exact fun w h => by first | exact h | exact h.sub SubC.h SubC.h | exact h.sub zz5 zz5
        ·
         try simp only [decide_eq_true_eq, decide_eq_false_iff_not, Bool.and_eq_true, Bool.or_eq_true, beq_iff_eq, bne_iff_ne, ne_eq, Bool.not_eq_true', Bool.not_eq_false', Decidable.not_not] at hb31
         refine wpl_off rfl rfl rfl rfl <| wpl_off rfl rfl rfl rfl <| wpl_on rfl rfl <| wpl_q (q_pure rfl) rfl <| wpl_q (q_pure rfl) rfl <| wpl_q (q_pure rfl) rfl <| wpl_on rfl rfl <| wpl_q (q_pure rfl) rfl <| wpl_on rfl rfl <| wpl_q (q_pure rfl) rfl <| wpl_on rfl rfl <| wpl_q (q_pure rfl) rfl ?_
         refine wpl_bool2 39 38 rfl rfl (fun hb39 => ?_) (fun hb39 => ?_)
         ·
          try simp only [decide_eq_true_eq, decide_eq_false_iff_not, Bool.and_eq_true, Bool.or_eq_true, beq_iff_eq, bne_iff_ne, ne_eq, Bool.not_eq_true', Bool.not_eq_false', Decidable.not_not] at hb39
          refine wpl_on rfl rfl <| wpl_q (q_pure rfl) rfl <| wpl_on rfl rfl <| wpl_q (q_pure rfl) rfl <| wpl_on rfl rfl <| wpl_q (q_pure rfl) rfl <| wpl_q (q_pure rfl) rfl <| wpl_q (q_pure rfl) rfl ?_
          refine wpl_bool2 44 41 rfl rfl (fun hb44 => ?_) (fun hb44 => ?_)
          ·
           try simp only [decide_eq_true_eq, decide_eq_false_iff_not, Bool.and_eq_true, Bool.or_eq_true, beq_iff_eq, bne_iff_ne, ne_eq, Bool.not_eq_true', Bool.not_eq_false', Decidable.not_not] at hb44
           refine wpl_off rfl rfl rfl rfl <| wpl_off rfl rfl rfl rfl <| wpl_q (q_pure rfl) rfl <| wpl_q (q_pure rfl) rfl <| wpl_off rfl rfl rfl rfl <| wpl_off rfl rfl rfl rfl <| wpl_q (q_pure rfl) rfl <| wpl_q (q_pure rfl) rfl ?_
           refine wpl_re 52 rfl (congrArg Value.bool (show _ = !goodB (xs.getD i 0) by
             (try simp only [e45, e95] at *)
             first
             | (rw [show goodB (xs.getD i 0) = true from (goodB_iff _).2 zz11]; done)
             | (rw [show goodB (xs.getD i 0) = true from (goodB_iff _).2 zz11]; rfl)
             | (rw [show goodB (xs.getD i 0) = decide ((xs.getD i 0).toNat = 95) from zz14]))) ?_
           refine wpl_nil ?_
           refine ex_mid ⟨(), trivial⟩ ?_ ?_
           ·
            exact zz7
           ·
            exact fun w h => by first | exact h | exact h.sub SubC.h SubC.h | exact h.sub zz5 zz5
          ·
           try simp only [decide_eq_true_eq, decide_eq_false_iff_not, Bool.and_eq_true, Bool.or_eq_true, beq_iff_eq, bne_iff_ne, ne_eq, Bool.not_eq_true', Bool.not_eq_false', Decidable.not_not] at hb44
           refine wpl_on rfl rfl <| wpl_q (q_pure rfl) rfl <| wpl_on rfl rfl ?_
           refine wpl_q (q8_eql (b := (45 : UInt8)) rfl rfl) rfl ?_
           refine wpl_q (q_pure rfl) rfl <| wpl_q (q_pure rfl) rfl ?_
           refine wpl_bool2 48 46 rfl rfl (fun hb48 => ?_) (fun hb48 => ?_)
           ·
            try simp only [decide_eq_true_eq, decide_eq_false_iff_not, Bool.and_eq_true, Bool.or_eq_true, beq_iff_eq, bne_iff_ne, ne_eq, Bool.not_eq_true', Bool.not_eq_false', Decidable.not_not] at hb48
            refine wpl_off rfl rfl rfl rfl <| wpl_off rfl rfl rfl rfl <| wpl_q (q_pure rfl) rfl <| wpl_q (q_pure rfl) rfl ?_
            refine wpl_re 52 rfl (congrArg Value.bool (show _ = !goodB (xs.getD i 0) by
              (try simp only [e45, e95] at *)
              first
              | (rw [show goodB (xs.getD i 0) = true from (goodB_iff _).2 zz11]; done)
              | (rw [show goodB (xs.getD i 0) = true from (goodB_iff _).2 zz11]; rfl)
              | (rw [show goodB (xs.getD i 0) = decide ((xs.getD i 0).toNat = 95) from zz14]))) ?_
            refine wpl_nil ?_
            refine ex_mid ⟨(), trivial⟩ ?_ ?_
            ·
             exact zz7
            ·
             exact fun w h => by first | exact h | exact h.sub SubC.h SubC.h | exact h.sub zz5 zz5
           ·
            try simp only [decide_eq_true_eq, decide_eq_false_iff_not, Bool.and_eq_true, Bool.or_eq_true, beq_iff_eq, bne_iff_ne, ne_eq, Bool.not_eq_true', Bool.not_eq_false', Decidable.not_not] at hb48
            refine wpl_on rfl rfl <| wpl_q (q_pure rfl) rfl <| wpl_on rfl rfl ?_
            refine wpl_q (q8_eql (b := (95 : UInt8)) rfl rfl) rfl ?_
            refine wpl_q (q_pure rfl) rfl <| wpl_q (q_pure rfl) rfl ?_
            refine wpl_re 52 rfl (congrArg Value.bool (show _ = !goodB (xs.getD i 0) by
              (try simp only [e45, e95] at *)
              first
              | (rw [show goodB (xs.getD i 0) = true from (goodB_iff _).2 zz11]; done)
              | (rw [show goodB (xs.getD i 0) = true from (goodB_iff _).2 zz11]; rfl)
              | (rw [show goodB (xs.getD i 0) = decide ((xs.getD i 0).toNat = 95) from zz14]))) ?_
            refine wpl_nil ?_
            refine ex_mid ⟨(), trivial⟩ ?_ ?_
            ·
             exact zz7
            ·
             exact fun w h => by first | exact h | exact h.sub SubC.h SubC.h | exact h.sub zz5 zz5
         ·
          try simp only [decide_eq_true_eq, decide_eq_false_iff_not, Bool.and_eq_true, Bool.or_eq_true, beq_iff_eq, bne_iff_ne, ne_eq, Bool.not_eq_true', Bool.not_eq_false', Decidable.not_not] at hb39
          refine wpl_off rfl rfl rfl rfl <| wpl_off rfl rfl rfl rfl <| wpl_on rfl rfl <| wpl_q (q_pure rfl) rfl <| wpl_q (q_pure rfl) rfl <| wpl_q (q_pure rfl) rfl <| wpl_on rfl rfl <| wpl_q (q_pure rfl) rfl <| wpl_on rfl rfl ?_
          refine wpl_q (q8_eql (b := (45 : UInt8)) rfl rfl) rfl ?_
          refine wpl_q (q_pure rfl) rfl <| wpl_q (q_pure rfl) rfl ?_
          refine wpl_bool2 48 46 rfl rfl (fun hb48 => ?_) (fun hb48 => ?_)
          ·
           try simp only [decide_eq_true_eq, decide_eq_false_iff_not, Bool.and_eq_true, Bool.or_eq_true, beq_iff_eq, bne_iff_ne, ne_eq, Bool.not_eq_true', Bool.not_eq_false', Decidable.not_not] at hb48
           refine wpl_off rfl rfl rfl rfl <| wpl_off rfl rfl rfl rfl <| wpl_q (q_pure rfl) rfl <| wpl_q (q_pure rfl) rfl ?_
           refine wpl_re 52 rfl (congrArg Value.bool (show _ = !goodB (xs.getD i 0) by
             (try simp only [e45, e95] at *)
             first
             | (rw [show goodB (xs.getD i 0) = true from (goodB_iff _).2 zz11]; done)
             | (rw [show goodB (xs.getD i 0) = true from (goodB_iff _).2 zz11]; rfl)
             | (rw [show goodB (xs.getD i 0) = decide ((xs.getD i 0).toNat = 95) from zz14]))) ?_
           refine wpl_nil ?_
           refine ex_mid ⟨(), trivial⟩ ?_ ?_
           ·
            exact zz7
           ·
            exact fun w h => by first | exact h | exact h.sub SubC.h SubC.h | exact h.sub zz5 zz5
          ·
           try simp only [decide_eq_true_eq, decide_eq_false_iff_not, Bool.and_eq_true, Bool.or_eq_true, beq_iff_eq, bne_iff_ne, ne_eq, Bool.not_eq_true', Bool.not_eq_false', Decidable.not_not] at hb48
           refine wpl_on rfl rfl <| wpl_q (q_pure rfl) rfl <| wpl_on rfl rfl ?_
           refine wpl_q (q8_eql (b := (95 : UInt8)) rfl rfl) rfl ?_
           refine wpl_q (q_pure rfl) rfl <| wpl_q (q_pure rfl) rfl ?_
           refine wpl_re 52 rfl (congrArg Value.bool (show _ = !goodB (xs.getD i 0) by
             (try simp only [e45, e95] at *)
             first
             | (rw [show goodB (xs.getD i 0) = true from (goodB_iff _).2 zz11]; done)
             | (rw [show goodB (xs.getD i 0) = true from (goodB_iff _).2 zz11]; rfl)
             | (rw [show goodB (xs.getD i 0) = decide ((xs.getD i 0).toNat = 95) from zz14]))) ?_
           refine wpl_nil ?_
           refine ex_mid ⟨(), trivial⟩ ?_ ?_
           ·
            exact zz7
           ·
            exact fun w h => by first | exact h | exact h.sub SubC.h SubC.h | exact h.sub zz5 zz5
      ·
       rintro ⟨_, _⟩; try dsimp only
       refine wpc_cond rfl (fun hc52 => ?_) (fun hc52 => ?_)
       ·
        have hg : goodB (xs.getD i 0) = false := by simpa using hc52
        refine wpc_seq <| wpc_region <| wpl_q (q_pure rfl) rfl <| wpl_nil <| ex_then <| wpc_ret ?_
        refine ex_block_ret ?_
        refine ex_then_ret ?_
        refine ex_then_ret ?_
        refine ex_block_ret ?_
        refine ex_then_ret ?_
        refine ret1 (.inl rfl) rfl rfl ?_
        exact fun w h => ⟨by rw [show nameF xs = false by exact name_bad hil hg], h.below⟩
       ·
        have hg : goodB (xs.getD i 0) = true := by simpa using hc52
        refine wpc_skip <| ex_block <| ex_then <| wpc_region <| wpl_q (q_pure rfl) rfl ?_
        refine wpl_q (q_addN (b := 1) rfl rfl zz0) rfl ?_
        refine wpl_q (q_pure rfl) rfl <| wpl_nil ?_
        refine ex_again ⟨i + 1, ⟨by show i + 1 ≤ xs.length; omega, fun j hj => by rcases Nat.lt_or_ge j i with h | h; exact hi1 j h; obtain rfl : j = i := (by have hj : j < i + 1 := hj; omega); exact hg⟩⟩ ?_ ?_ ?_
        ·
         exact zz7
        ·
         exact fun w h => by first | exact h | exact h.sub SubC.h SubC.h | exact h.sub zz5 zz5
        ·
         (show xs.length - (i + 1) < xs.length - i); omega
     ·
      simp only [decide_eq_false_iff_not] at hc16
      obtain rfl : i = xs.length := by omega
      refine wpc_exit ?_
      refine ex_then_exit ?_
      refine ex_then_exit ?_
      refine ex_block_hit ?_
      refine ex_then <| wpc_seq <| wpc_region <| wpl_q (q_pure rfl) rfl <| wpl_nil <| ex_then <| wpc_ret ?_
      refine ret1 (.inl rfl) rfl rfl ?_
      exact fun w h => ⟨by rw [name_all hi1, decide_eq_true hlen.1, decide_eq_true hlen.2]; rfl, h.below⟩
end Go.Proofs.Ytgnablliekgbgaa
namespace Go.Proofs.Ytgnablliekgbgaa
open Go Go.PL Go.RowKit
theorem rvCheck (l : Rv) (w : World) (hl : l.seen w.cell?) (hnl : l.nm.length ≤ maxLen)  :
    Calls Try.prog 12 [.agg l.c.toArray].toArray w (Pur w (.int .i64 (chkR l))) := by
  haveI := hl.svs.one
  have lss := hl.s.sv.le
  have lcs := hl.c.sv.le
  have lps := hl.p.sv.le
  have sss := hl.s.sv
  have scs := hl.c.sv
  have sps := hl.p.sv
  simp only [maxLen] at lss lcs lps
  refine enter (m := 66) (R := Mem w [] [] []) Try.func12 rfl rfl (Nat.le_of_ble_eq_true rfl) (Mem.start w) ?_
  refine wpc_seq <| wpc_region ?_
  refine wpl_t (t_box rfl l.c rfl) rfl (fun b1 => ?_)
  refine wpl_q (q_pure rfl) rfl <| wpl_nil <| ex_then <| wpc_seq <| wpc_seq <| wpc_region <| wpl_q (q_field Try.underlying30 rfl Try.ti25 rfl rfl _ rfl) rfl <| wpl_q (q_ld Try.underlying25 rfl rfl (show l.c[4]? = some (l.sv) from rfl)) rfl ?_
  refine wpl_q (q_lenW Try.underlying25 rfl zz2) rfl ?_
  refine wpl_q (q_pure rfl) rfl <| wpl_nil <| ex_then ?_
  refine wpc_cond rfl (fun hc10 => ?_) (fun hc10 => ?_)
  ·
   have h5 : 500 < l.ss.length := by have := of_decide_eq_true hc10; omega
   refine wpc_seq <| wpc_region <| wpl_q (q_pure rfl) rfl <| wpl_nil <| ex_then <| wpc_ret ?_
   refine ex_then_ret ?_
   refine ret1 (.inl rfl) rfl rfl ?_
   exact fun w h => ⟨by rw [chk_4 h5], h.below⟩
  ·
   have h5 : ¬ 500 < l.ss.length := by have := of_decide_eq_false hc10; omega
   refine wpc_skip <| ex_then ?_
   refine wpc_cutc ({ x : Unit // True }) [(1, .pointer (some ⟨b1, 0, none⟩))] (fun x Lc => (3, .bool (nameF l.nm && winF l.fr l.tt)) :: Lc) (fun x => Mem w [] [.blk b1 30 l.c] []) ?_ ?_
   ·
    refine wpc_region <| wpl_q (q_field Try.underlying30 rfl Try.ti9 rfl rfl _ rfl) rfl <| wpl_q (q_ld Try.underlying9 rfl rfl (show l.c[0]? = some (str l.nm) from rfl)) rfl ?_
    refine wpl_t (t_pur Try.hb30 rfl fun w h => nameOk l.nm w hnl) rfl (fun b13 => ?_)
    refine wpl_q (q_pure rfl) rfl ?_
    refine wpl_bool2 14 13 rfl rfl (fun hb14 => ?_) (fun hb14 => ?_)
    ·
     have hn : nameF l.nm = true := hb14
     refine wpl_on rfl rfl <| wpl_q (q_field Try.underlying30 rfl Try.ti24 rfl rfl _ rfl) rfl <| wpl_on rfl rfl <| wpl_q (q_ldP Try.underlying24 rfl Try.ti24 rfl l.win rfl rfl) rfl <| wpl_on rfl rfl ?_
     refine wpl_t (t_pur Try.hb31 rfl fun w h => clockCheck l.fr l.tt w) rfl (fun b17 => ?_)
     refine wpl_on rfl rfl <| wpl_q (q_pure rfl) rfl <| wpl_q (q_pure rfl) rfl ?_
     refine wpl_re 19 rfl (congrArg Value.bool (show _ = (nameF l.nm && winF l.fr l.tt) by first | (rw [hn, Bool.true_and]; cases winF l.fr l.tt <;> rfl) | (rw [hn]; rfl))) ?_
     refine wpl_q (q_pure rfl) rfl <| wpl_nil ?_
     refine ex_mid ⟨(), trivial⟩ ?_ ?_
     ·
      exact zz7
     ·
      exact fun w h => by first | exact h | exact h.sub SubC.h SubC.h | exact h.sub zz5 zz5
    ·
     have hn : nameF l.nm = false := hb14
     refine wpl_off rfl rfl rfl rfl <| wpl_off rfl rfl rfl rfl <| wpl_off rfl rfl rfl rfl <| wpl_off rfl rfl rfl rfl <| wpl_q (q_pure rfl) rfl ?_
     refine wpl_re 19 rfl (congrArg Value.bool (show _ = (nameF l.nm && winF l.fr l.tt) by first | (rw [hn, Bool.true_and]; cases winF l.fr l.tt <;> rfl) | (rw [hn]; rfl))) ?_
     refine wpl_q (q_pure rfl) rfl <| wpl_nil ?_
     refine ex_mid ⟨(), trivial⟩ ?_ ?_
     ·
      exact zz7
     ·
      exact fun w h => by first | exact h | exact h.sub SubC.h SubC.h | exact h.sub zz5 zz5
   ·
    rintro ⟨_, _⟩; try dsimp only
    refine wpc_cutc ({ x : Unit // True }) [(1, .pointer (some ⟨b1, 0, none⟩))] (fun x Lc => (3, .bool (okA l)) :: Lc) (fun x => Mem w [] [.blk b1 30 l.c] []) ?_ ?_
    ·
     refine wpc_cutc ({ x : Unit // True }) [(1, .pointer (some ⟨b1, 0, none⟩)), (3, .bool (nameF l.nm && winF l.fr l.tt))] (fun x Lc => (37, .bool (sigB l.ix l.chs.length l.ps.length)) :: Lc) (fun x => Mem w [] [.blk b1 30 l.c] []) ?_ ?_
     ·
      refine wpc_region <| wpl_q (q_field Try.underlying30 rfl Try.ti28 rfl rfl _ rfl) rfl <| wpl_q (q_field Try.underlying28 rfl Try.ti3 rfl rfl _ rfl) rfl <| wpl_q (q_ld Try.underlying3 rfl rfl (show l.c[5]? = some (.int .i64 l.ix) from rfl)) rfl <| wpl_q (q_pure rfl) rfl <| wpl_q (q_pure rfl) rfl ?_
      refine wpl_bool2 24 23 rfl rfl (fun hb24 => ?_) (fun hb24 => ?_)
      ·
       try simp only [decide_eq_true_eq, decide_eq_false_iff_not, Bool.and_eq_true, Bool.or_eq_true, beq_iff_eq, bne_iff_ne, ne_eq, Bool.not_eq_true', Bool.not_eq_false', Decidable.not_not] at hb24
       refine wpl_off rfl rfl rfl rfl <| wpl_off rfl rfl rfl rfl <| wpl_off rfl rfl rfl rfl <| wpl_off rfl rfl rfl rfl <| wpl_off rfl rfl rfl rfl <| wpl_q (q_pure rfl) rfl <| wpl_q (q_pure rfl) rfl <| wpl_off rfl rfl rfl rfl <| wpl_off rfl rfl rfl rfl <| wpl_off rfl rfl rfl rfl <| wpl_off rfl rfl rfl rfl <| wpl_off rfl rfl rfl rfl ?_
       refine wpl_q (q_pure rfl) rfl ?_
       refine wpl_re 37 rfl (congrArg Value.bool (show _ = (sigB l.ix l.chs.length l.ps.length) from by
         (try simp only [bne_iff_ne, ne_eq, bne_eq_false_iff_eq, decide_eq_true_eq, decide_eq_false_iff_not, gt_iff_lt] at *)
         first
         | exact (show sigB l.ix l.chs.length l.ps.length = true from zz36).symm
         | (rw [Bool.eq_iff_iff]; simp only [sigB, Bool.or_eq_true, decide_eq_true_eq]; omega))) ?_
       refine wpl_nil ?_
       refine ex_mid ⟨(), trivial⟩ ?_ ?_
       ·
        exact zz7
       ·
        exact fun w h => by first | exact h | exact h.sub SubC.h SubC.h | exact h.sub zz5 zz5
      ·
       try simp only [decide_eq_true_eq, decide_eq_false_iff_not, Bool.and_eq_true, Bool.or_eq_true, beq_iff_eq, bne_iff_ne, ne_eq, Bool.not_eq_true', Bool.not_eq_false', Decidable.not_not] at hb24
       refine wpl_on rfl rfl <| wpl_q (q_field Try.underlying30 rfl Try.ti28 rfl rfl _ rfl) rfl <| wpl_on rfl rfl <| wpl_q (q_field Try.underlying28 rfl Try.ti26 rfl rfl _ rfl) rfl <| wpl_on rfl rfl <| wpl_q (q_ld Try.underlying26 rfl rfl (show l.c[6]? = some (l.cv) from rfl)) rfl <| wpl_on rfl rfl ?_
       refine wpl_q (q_lenW Try.underlying26 rfl zz2) rfl ?_
       refine wpl_on rfl rfl <| wpl_q (q_pure rfl) rfl <| wpl_q (q_pure rfl) rfl <| wpl_q (q_pure rfl) rfl ?_
       refine wpl_bool2 31 29 rfl rfl (fun hb31 => ?_) (fun hb31 => ?_)
       ·
        try simp only [decide_eq_true_eq, decide_eq_false_iff_not, Bool.and_eq_true, Bool.or_eq_true, beq_iff_eq, bne_iff_ne, ne_eq, Bool.not_eq_true', Bool.not_eq_false', Decidable.not_not] at hb31
        refine wpl_off rfl rfl rfl rfl <| wpl_off rfl rfl rfl rfl <| wpl_off rfl rfl rfl rfl <| wpl_off rfl rfl rfl rfl <| wpl_off rfl rfl rfl rfl <| wpl_q (q_pure rfl) rfl ?_
        refine wpl_re 37 rfl (congrArg Value.bool (show _ = (sigB l.ix l.chs.length l.ps.length) from by
          (try simp only [bne_iff_ne, ne_eq, bne_eq_false_iff_eq, decide_eq_true_eq, decide_eq_false_iff_not, gt_iff_lt] at *)
          first
          | exact (show sigB l.ix l.chs.length l.ps.length = true from zz36).symm
          | (rw [Bool.eq_iff_iff]; simp only [sigB, Bool.or_eq_true, decide_eq_true_eq]; omega))) ?_
        refine wpl_nil ?_
        refine ex_mid ⟨(), trivial⟩ ?_ ?_
        ·
         exact zz7
        ·
         exact fun w h => by first | exact h | exact h.sub SubC.h SubC.h | exact h.sub zz5 zz5
       ·
        try simp only [decide_eq_true_eq, decide_eq_false_iff_not, Bool.and_eq_true, Bool.or_eq_true, beq_iff_eq, bne_iff_ne, ne_eq, Bool.not_eq_true', Bool.not_eq_false', Decidable.not_not] at hb31
        refine wpl_on rfl rfl <| wpl_q (q_field Try.underlying30 rfl Try.ti28 rfl rfl _ rfl) rfl <| wpl_on rfl rfl <| wpl_q (q_field Try.underlying28 rfl Try.ti26 rfl rfl _ rfl) rfl <| wpl_on rfl rfl <| wpl_q (q_ld Try.underlying26 rfl rfl (show l.c[7]? = some (l.pv) from rfl)) rfl <| wpl_on rfl rfl ?_
        refine wpl_q (q_lenW Try.underlying26 rfl zz2) rfl ?_
        refine wpl_on rfl rfl <| wpl_q (q_pure rfl) rfl <| wpl_q (q_pure rfl) rfl ?_
        refine wpl_re 37 rfl (congrArg Value.bool (show _ = (sigB l.ix l.chs.length l.ps.length) from by
          (try simp only [bne_iff_ne, ne_eq, bne_eq_false_iff_eq, decide_eq_true_eq, decide_eq_false_iff_not, gt_iff_lt] at *)
          first
          | exact (show sigB l.ix l.chs.length l.ps.length = true from zz36).symm
          | (rw [Bool.eq_iff_iff]; simp only [sigB, Bool.or_eq_true, decide_eq_true_eq]; omega))) ?_
        refine wpl_nil ?_
        refine ex_mid ⟨(), trivial⟩ ?_ ?_
        ·
         exact zz7
        ·
         exact fun w h => by first | exact h | exact h.sub SubC.h SubC.h | exact h.sub zz5 zz5
     ·
      rintro ⟨_, _⟩; try dsimp only
      refine wpc_cond rfl (fun hc37 => ?_) (fun hc37 => ?_)
      ·
       have hs : (sigB l.ix l.chs.length l.ps.length) = true := hc37
       refine wpc_region <| wpl_q (q_pure rfl) rfl <| wpl_q (q_pure rfl) rfl ?_
       refine wpl_bool2 39 3 rfl rfl (fun hb39 => ?_) (fun hb39 => ?_)
       ·
        have hnw : (nameF l.nm && winF l.fr l.tt) = true := hb39
        refine wpl_on rfl rfl <| wpl_q (q_field Try.underlying30 rfl Try.ti28 rfl rfl _ rfl) rfl <| wpl_on rfl rfl <| wpl_q (q_field Try.underlying28 rfl Try.ti26 rfl rfl _ rfl) rfl <| wpl_on rfl rfl <| wpl_q (q_ld Try.underlying26 rfl rfl (show l.c[7]? = some (l.pv) from rfl)) rfl <| wpl_on rfl rfl ?_
        refine wpl_q (q_lenW Try.underlying26 rfl zz2) rfl ?_
        refine wpl_on rfl rfl <| wpl_q (q_field Try.underlying30 rfl Try.ti28 rfl rfl _ rfl) rfl <| wpl_on rfl rfl <| wpl_q (q_ldP Try.underlying28 rfl Try.ti28 rfl l.sig rfl rfl) rfl <| wpl_on rfl rfl ?_
        refine wpl_t (t_pur Try.hb32 rfl fun w h => check7 ((l.ps.length : Nat) : Int) l.ix l.cv l.pv l.chs l.ps w scs sps) rfl (fun b46 => ?_)
        refine wpl_on rfl rfl <| wpl_q (q_pure rfl) rfl <| wpl_q (q_pure rfl) rfl ?_
        refine wpl_re 48 rfl (congrArg Value.bool (show _ = okA l by unfold okA gsigB; rw [hs, hnw]; first | rfl | simp)) ?_
        refine wpl_q (q_pure rfl) rfl <| wpl_nil ?_
        refine ex_mid ⟨(), trivial⟩ ?_ ?_
        ·
         exact zz7
        ·
         exact fun w h => by first | exact h | exact h.sub SubC.h SubC.h | exact h.sub zz5 zz5
       ·
        have hnw : (nameF l.nm && winF l.fr l.tt) = false := hb39
        refine wpl_off rfl rfl rfl rfl <| wpl_off rfl rfl rfl rfl <| wpl_off rfl rfl rfl rfl <| wpl_off rfl rfl rfl rfl <| wpl_off rfl rfl rfl rfl <| wpl_off rfl rfl rfl rfl <| wpl_off rfl rfl rfl rfl <| wpl_off rfl rfl rfl rfl <| wpl_q (q_pure rfl) rfl ?_
        refine wpl_re 48 rfl (congrArg Value.bool (show _ = okA l by unfold okA gsigB; rw [hs, hnw]; first | rfl | simp)) ?_
        refine wpl_q (q_pure rfl) rfl <| wpl_nil ?_
        refine ex_mid ⟨(), trivial⟩ ?_ ?_
        ·
         exact zz7
        ·
         exact fun w h => by first | exact h | exact h.sub SubC.h SubC.h | exact h.sub zz5 zz5
      ·
       have hs : (sigB l.ix l.chs.length l.ps.length) = false := hc37
       refine wpc_re 3 rfl (congrArg Value.bool (show _ = okA l by unfold okA gsigB; rw [hs]; simp)) ?_
       refine wpc_skip ?_
       refine ex_mid ⟨(), trivial⟩ ?_ ?_
       ·
        exact zz7
       ·
        exact fun w h => by first | exact h | exact h.sub SubC.h SubC.h | exact h.sub zz5 zz5
    ·
     rintro ⟨_, _⟩; try dsimp only
     refine wpc_seq <| wpc_region <| wpl_q (q_pure rfl) rfl <| wpl_nil <| ex_then <| wpc_seq <| wpc_seq <| wpc_region <| wpl_q (q_field Try.underlying30 rfl Try.ti25 rfl rfl _ rfl) rfl <| wpl_q (q_ld Try.underlying25 rfl rfl (show l.c[4]? = some (l.sv) from rfl)) rfl ?_
     refine wpl_q (q_lenW Try.underlying25 rfl zz2) rfl ?_
     refine wpl_re 3 rfl (congrArg Value.bool (show _ = (okA l && decide (incF l.ss 0)) by rw [decide_eq_true (incF_0 _), Bool.and_true])) ?_
     refine wpl_q (q_pure rfl) rfl <| wpl_nil <| ex_then <| wpc_block ?_
     refine wpc_loopc (ι := { x : Nat // (x ≤ l.ss.length) }) [(50, _), (51, _)] (fun x Lc => (52, .int .i64 ((x.1 : Nat) : Int)) :: (4, .int .u64 ((lastN l.ss x.1).toNat : Int)) :: (3, .bool (okA l && decide (incF l.ss x.1))) :: Lc) (fun x => Mem w [] [.blk b1 30 l.c] []) (fun x => l.ss.length - x.1) ⟨0, Nat.zero_le _⟩ zz7 ?_ ?_
     ·
      exact fun w h => h
     ·
      rintro ⟨i, hi0⟩; try dsimp only
      have hi0 : i ≤ l.ss.length := hi0
      refine wpc_seq <| wpc_region <| wpl_q (q_pure rfl) rfl <| wpl_nil <| ex_then <| wpc_seq ?_
      refine wpc_cond rfl (fun hc53 => ?_) (fun hc53 => ?_)
      ·
       simp only [decide_eq_true_eq] at hc53
       have hil : i < l.ss.length := by omega
       refine wpc_skip <| ex_then <| wpc_seq <| wpc_block <| wpc_seq <| wpc_region ?_
       refine wpl_q (q_idxW1 Try.underlying25 Try.ti22 rfl rfl zz2 zz0) rfl ?_
       refine wpl_q (q_ldW Try.underlying22 rfl rfl (fun w h => h.seen_old hl.s) (by first | exact v64s_get zz3 | rfl)) rfl ?_
       refine wpl_q (q_pure rfl) rfl <| wpl_nil <| ex_then <| wpc_seq <| wpc_region <| wpl_q (q_pure rfl) rfl <| wpl_q (q_pure rfl) rfl ?_
       refine wpl_bool2 57 3 rfl rfl (fun hb57 => ?_) (fun hb57 => ?_)
       ·
        have hk : (okA l && decide (incF l.ss i)) = true := hb57
        refine wpl_on rfl rfl <| wpl_q (q_pure rfl) rfl <| wpl_on rfl rfl <| wpl_q (q_pure rfl) rfl <| wpl_on rfl rfl <| wpl_q (q_pure rfl) rfl <| wpl_q (q_pure rfl) rfl ?_
        refine wpl_re 61 rfl (congrArg Value.bool (show _ = (okA l && decide (incF l.ss (i + 1))) by
          rw [decide_eq_decide.2 incF_S, Bool.decide_and, ← Bool.and_assoc, hk]
          first
          | rfl
          | (rw [Bool.true_and]; first | rfl | exact decide_eq_decide.2 (by first | exact Iff.rfl | (rw [UInt64.lt_iff_toNat_lt]; omega))))) ?_
        refine wpl_q (q_pure rfl) rfl <| wpl_nil <| ex_then <| wpc_region <| wpl_q (q_pure rfl) rfl <| wpl_q (q_pure rfl) rfl <| wpl_nil <| ex_block <| ex_then <| wpc_region ?_
        refine wpl_q (q_addN (b := 1) rfl rfl zz0) rfl ?_
        refine wpl_q (q_pure rfl) rfl <| wpl_nil ?_
        refine ex_again ⟨i + 1, (show i + 1 ≤ l.ss.length from zz11)⟩ ?_ ?_ ?_
        ·
         exact zz7
        ·
         exact fun w h => by first | exact h | exact h.sub SubC.h SubC.h | exact h.sub zz5 zz5
        ·
         (show l.ss.length - (i + 1) < l.ss.length - i); omega
       ·
        have hk : (okA l && decide (incF l.ss i)) = false := hb57
        refine wpl_off rfl rfl rfl rfl <| wpl_off rfl rfl rfl rfl <| wpl_off rfl rfl rfl rfl <| wpl_q (q_pure rfl) rfl ?_
        refine wpl_re 61 rfl (congrArg Value.bool (show _ = (okA l && decide (incF l.ss (i + 1))) by
          rw [decide_eq_decide.2 incF_S, Bool.decide_and, ← Bool.and_assoc, hk]
          first
          | rfl
          | (rw [Bool.true_and]; first | rfl | exact decide_eq_decide.2 (by first | exact Iff.rfl | (rw [UInt64.lt_iff_toNat_lt]; omega))))) ?_
        refine wpl_q (q_pure rfl) rfl <| wpl_nil <| ex_then <| wpc_region <| wpl_q (q_pure rfl) rfl <| wpl_q (q_pure rfl) rfl <| wpl_nil <| ex_block <| ex_then <| wpc_region ?_
        refine wpl_q (q_addN (b := 1) rfl rfl zz0) rfl ?_
        refine wpl_q (q_pure rfl) rfl <| wpl_nil ?_
        refine ex_again ⟨i + 1, (show i + 1 ≤ l.ss.length from zz11)⟩ ?_ ?_ ?_
        ·
         exact zz7
        ·
         exact fun w h => by first | exact h | exact h.sub SubC.h SubC.h | exact h.sub zz5 zz5
        ·
         (show l.ss.length - (i + 1) < l.ss.length - i); omega
      ·
       simp only [decide_eq_false_iff_not] at hc53
       obtain rfl : i = l.ss.length := by omega
       refine wpc_exit ?_
       refine ex_then_exit ?_
       refine ex_then_exit ?_
       refine ex_block_hit ?_
       refine ex_then <| wpc_seq <| wpc_seq <| wpc_region <| wpl_q (q_pure rfl) rfl <| wpl_q (q_pure rfl) rfl <| wpl_nil <| ex_then ?_
       refine wpc_cond rfl (fun hc65 => ?_) (fun hc65 => ?_)
       ·
        have hk : okR l = false := by rw [Bool.not_eq_true'] at hc65; exact hc65
        refine wpc_seq <| wpc_region <| wpl_q (q_pure rfl) rfl <| wpl_nil <| ex_then <| wpc_ret ?_
        refine ex_then_ret ?_
        refine ret1 (.inl rfl) rfl rfl ?_
        exact fun w h => ⟨by rw [chk_8 h5 hk], h.below⟩
       ·
        have hk : okR l = true := by rw [Bool.not_eq_false'] at hc65; exact hc65
        refine wpc_skip <| ex_then <| wpc_seq <| wpc_region <| wpl_q (q_pure rfl) rfl <| wpl_nil <| ex_then <| wpc_ret ?_
        refine ret1 (.inl rfl) rfl rfl ?_
        exact fun w h => ⟨by rw [chk_ok h5 hk], h.below⟩
end Go.Proofs.Ytgnablliekgbgaa
namespace Go.Proofs.Ytgnablliekgbgaa
open Go Go.PL Go.RowKit
theorem getD64 {xs : List UInt64} {j : Nat} (hj : j < xs.length) : xs.getD j 0 = xs[j] := by rw [List.getD_eq_getElem?_getD, List.getElem?_eq_getElem hj]; rfl
end Go.Proofs.Ytgnablliekgbgaa
namespace Go.Proofs.Ytgnablliekgbgaa
open Go Go.PL Go.RowKit
theorem eq8_62 : Eq8 Try.prog 62 16 := eqc_array Try.underlying62 Try.ti62 Try.ti5 rfl (eqc_int Try.underlying5 Try.ti5)
theorem same_step64 (xs ys : List UInt64) (i : Nat) (h : xs.take i = ys.take i) (hx : i < xs.length) (hy : i < ys.length) (e : xs.getD i 0 = ys.getD i 0) : xs.take (i + 1) = ys.take (i + 1) := by
  rw [List.take_add_one, List.take_add_one, h, List.getElem?_eq_getElem hx, List.getElem?_eq_getElem hy]
  rw [getD64 hx, getD64 hy] at e
  rw [e]
theorem same_stepS (xs ys : List (List UInt8)) (i : Nat) (h : xs.take i = ys.take i) (hx : i < xs.length) (hy : i < ys.length) (e : xs.getD i [] = ys.getD i []) : xs.take (i + 1) = ys.take (i + 1) := by
  rw [List.take_add_one, List.take_add_one, h, List.getElem?_eq_getElem hx, List.getElem?_eq_getElem hy]
  rw [List.getD_eq_getElem?_getD, List.getElem?_eq_getElem hx, List.getD_eq_getElem?_getD, List.getElem?_eq_getElem hy] at e
  have e : xs[i] = ys[i] := e
  rw [e]
theorem sameNumbers (av : Value) (xs : List UInt64) (bv : Value) (ys : List UInt64) (w : World) (hav : Seen w.cell? av xs.length 1 (v64s xs)) (hbv : Seen w.cell? bv ys.length 1 (v64s ys))  :
    Calls Try.prog 38 [av, bv].toArray w (Pur w (.bool (decide (xs = ys)))) := by
  have sav := hav.sv
  have lav := sav.le
  simp only [maxLen] at lav
  have sbv := hbv.sv
  have lbv := sbv.le
  simp only [maxLen] at lbv
  refine enter (m := 26) (R := Mem w [] [] []) Try.func38 rfl rfl (Nat.le_of_ble_eq_true rfl) (Mem.start w) ?_
  refine wpc_seq <| wpc_region <| wpl_q (q_pure rfl) rfl <| wpl_nil <| ex_then <| wpc_seq <| wpc_seq <| wpc_region <| wpl_q (q_pure rfl) rfl ?_
  refine wpl_q (q_lenW Try.underlying25 rfl zz2) rfl ?_
  refine wpl_q (q_pure rfl) rfl ?_
  refine wpl_q (q_lenW Try.underlying25 rfl zz2) rfl ?_
  refine wpl_q (q_pure rfl) rfl <| wpl_nil <| ex_then ?_
  refine wpc_cond rfl (fun hc10 => ?_) (fun hc10 => ?_)
  ·
   simp only [decide_eq_true_eq, bne_iff_ne, ne_eq] at hc10
   have hne : xs ≠ ys := fun e => hc10 (by rw [e])
   refine wpc_seq <| wpc_region <| wpl_q (q_pure rfl) rfl <| wpl_nil <| ex_then <| wpc_ret ?_
   refine ex_then_ret ?_
   refine ret1 (.inl rfl) rfl rfl ?_
   exact fun w h => ⟨by simp [hne], h.below⟩
  ·
   simp only [bne_eq_false_iff_eq] at hc10
   have hl : xs.length = ys.length := by omega
   refine wpc_skip <| ex_then <| wpc_seq <| wpc_seq <| wpc_region <| wpl_q (q_pure rfl) rfl <| wpl_nil <| ex_then <| wpc_block ?_
   refine wpc_loopc (ι := { x : Nat // (x ≤ xs.length) ∧ (xs.take x = ys.take x) }) [(0, _), (1, _)] (fun x Lc => (5, .int .i64 ((x.1 : Nat) : Int)) :: Lc) (fun x => Mem w [] [] []) (fun x => xs.length - x.1) ⟨0, ⟨Nat.zero_le _, rfl⟩⟩ zz7 ?_ ?_
   ·
    exact fun w h => h
   ·
    rintro ⟨i, ⟨hi0, hi1⟩⟩; try dsimp only
    have hi0 : i ≤ xs.length := hi0; have hi1 : xs.take i = ys.take i := hi1
    refine wpc_seq <| wpc_seq <| wpc_region <| wpl_q (q_pure rfl) rfl <| wpl_q (q_pure rfl) rfl ?_
    refine wpl_q (q_lenW Try.underlying25 rfl zz2) rfl ?_
    refine wpl_q (q_pure rfl) rfl <| wpl_nil <| ex_then ?_
    refine wpc_cond rfl (fun hc14 => ?_) (fun hc14 => ?_)
    ·
     try simp only [decide_eq_true_eq, decide_eq_false_iff_not, Bool.and_eq_true, Bool.or_eq_true, beq_iff_eq, bne_iff_ne, ne_eq, Bool.not_eq_true', Bool.not_eq_false', Decidable.not_not] at hc14
     refine wpc_skip <| ex_then <| wpc_seq <| wpc_block <| wpc_seq ?_
     refine wpc_draw 9 zz6 (fun _ h => h.drew) ?_
     refine wpd_p 0 rfl zz6 trivial (q_pure rfl) rfl sk0 ?_
     refine wpd_p 1 rfl zz6 trivial (q_pure rfl) rfl sk0 ?_
     refine wpd_p 2 rfl zz6 trivial (q_idxW1 Try.underlying25 Try.ti22 rfl rfl zz2 zz0) rfl sk0 ?_
     refine wpd_q 3 rfl zz6 trivial (q_ldW Try.underlying22 rfl rfl (fun w h => zz12) (by first | exact v64s_get zz3 | rfl)) rfl (fun _ h => h) ?_
     refine wpd_p 4 rfl zz6 trivial (q_pure rfl) rfl sk0 ?_
     refine wpd_p 5 rfl zz6 trivial (q_pure rfl) rfl sk0 ?_
     refine wpd_p 6 rfl zz6 trivial (q_idxW1 Try.underlying25 Try.ti22 rfl rfl zz2 zz0) rfl sk0 ?_
     refine wpd_q 7 rfl zz6 trivial (q_ldW Try.underlying22 rfl rfl (fun w h => zz12) (by first | exact v64s_get zz3 | rfl)) rfl (fun _ h => h) ?_
     refine wpd_p 8 rfl zz6 trivial (q64_neq rfl rfl) rfl sk0 ?_
     refine wpd_done zz6 ?_
     refine ex_then ?_
     refine wpc_cond rfl (fun hc25 => ?_) (fun hc25 => ?_)
     ·
      have hee : ¬ xs.getD i 0 = ys.getD i 0 := by simpa using hc25
      have hne : xs ≠ ys := fun e => hee (by rw [e])
      refine wpc_seq <| wpc_region <| wpl_q (q_pure rfl) rfl <| wpl_nil <| ex_then <| wpc_ret ?_
      refine ex_block_ret ?_
      refine ex_then_ret ?_
      refine ex_then_ret ?_
      refine ex_block_ret ?_
      refine ex_then_ret ?_
      refine ret1 (.inl rfl) rfl rfl ?_
      exact fun w h => ⟨by simp [hne], h.below⟩
     ·
      have hee : xs.getD i 0 = ys.getD i 0 := by simpa using hc25
      refine wpc_skip <| ex_block <| ex_then <| wpc_region <| wpl_q (q_pure rfl) rfl ?_
      refine wpl_q (q_addN (b := 1) rfl rfl zz0) rfl ?_
      refine wpl_q (q_pure rfl) rfl <| wpl_nil ?_
      refine ex_again ⟨i + 1, ⟨by show i + 1 ≤ xs.length; omega, same_step64 xs ys i hi1 zz11 zz11 hee⟩⟩ ?_ ?_ ?_
      ·
       exact zz7
      ·
       exact fun w h => by first | exact h | exact h.sub SubC.h SubC.h | exact h.sub zz5 zz5
      ·
       (show xs.length - (i + 1) < xs.length - i); omega
    ·
     simp only [decide_eq_false_iff_not] at hc14
     obtain rfl : i = xs.length := by omega
     have heq : xs = ys := by rw [List.take_length, hl, List.take_length] at hi1; exact hi1
     refine wpc_exit ?_
     refine ex_then_exit ?_
     refine ex_then_exit ?_
     refine ex_block_hit ?_
     refine ex_then <| wpc_seq <| wpc_region <| wpl_q (q_pure rfl) rfl <| wpl_nil <| ex_then <| wpc_ret ?_
     refine ret1 (.inl rfl) rfl rfl ?_
     exact fun w h => ⟨by simp [heq], h.below⟩
theorem sameShorts (av : Value) (xs : List (List UInt8)) (bv : Value) (ys : List (List UInt8)) (w : World) (hav : Seen w.cell? av xs.length 16 (v8s xs.flatten)) (hlxs : ∀ x ∈ xs, x.length = 16) (hbv : Seen w.cell? bv ys.length 16 (v8s ys.flatten)) (hlys : ∀ x ∈ ys, x.length = 16)  :
    Calls Try.prog 69 [av, bv].toArray w (Pur w (.bool (decide (xs = ys)))) := by
  have sav := hav.sv
  have lav := sav.le
  simp only [maxLen] at lav
  have sbv := hbv.sv
  have lbv := sbv.le
  simp only [maxLen] at lbv
  refine enter (m := 26) (R := Mem w [] [] []) Try.func69 rfl rfl (Nat.le_of_ble_eq_true rfl) (Mem.start w) ?_
  refine wpc_seq <| wpc_region <| wpl_q (q_pure rfl) rfl <| wpl_nil <| ex_then <| wpc_seq <| wpc_seq <| wpc_region <| wpl_q (q_pure rfl) rfl ?_
  refine wpl_q (q_lenW Try.underlying26 rfl zz2) rfl ?_
  refine wpl_q (q_pure rfl) rfl ?_
  refine wpl_q (q_lenW Try.underlying26 rfl zz2) rfl ?_
  refine wpl_q (q_pure rfl) rfl <| wpl_nil <| ex_then ?_
  refine wpc_cond rfl (fun hc10 => ?_) (fun hc10 => ?_)
  ·
   simp only [decide_eq_true_eq, bne_iff_ne, ne_eq] at hc10
   have hne : xs ≠ ys := fun e => hc10 (by rw [e])
   refine wpc_seq <| wpc_region <| wpl_q (q_pure rfl) rfl <| wpl_nil <| ex_then <| wpc_ret ?_
   refine ex_then_ret ?_
   refine ret1 (.inl rfl) rfl rfl ?_
   exact fun w h => ⟨by simp [hne], h.below⟩
  ·
   simp only [bne_eq_false_iff_eq] at hc10
   have hl : xs.length = ys.length := by omega
   refine wpc_skip <| ex_then <| wpc_seq <| wpc_seq <| wpc_region <| wpl_q (q_pure rfl) rfl <| wpl_nil <| ex_then <| wpc_block ?_
   refine wpc_loopc (ι := { x : Nat // (x ≤ xs.length) ∧ (xs.take x = ys.take x) }) [(0, _), (1, _)] (fun x Lc => (5, .int .i64 ((x.1 : Nat) : Int)) :: Lc) (fun x => Mem w [] [] []) (fun x => xs.length - x.1) ⟨0, ⟨Nat.zero_le _, rfl⟩⟩ zz7 ?_ ?_
   ·
    exact fun w h => h
   ·
    rintro ⟨i, ⟨hi0, hi1⟩⟩; try dsimp only
    have hi0 : i ≤ xs.length := hi0; have hi1 : xs.take i = ys.take i := hi1
    refine wpc_seq <| wpc_seq <| wpc_region <| wpl_q (q_pure rfl) rfl <| wpl_q (q_pure rfl) rfl ?_
    refine wpl_q (q_lenW Try.underlying26 rfl zz2) rfl ?_
    refine wpl_q (q_pure rfl) rfl <| wpl_nil <| ex_then ?_
    refine wpc_cond rfl (fun hc14 => ?_) (fun hc14 => ?_)
    ·
     simp only [decide_eq_true_eq] at hc14
     have g1 := getD_mem_len hlxs (i := i) zz11
     have g2 := getD_mem_len hlys (i := i) zz11
     refine wpc_skip <| ex_then <| wpc_seq <| wpc_block <| wpc_seq ?_
     refine wpc_draw 9 zz6 (fun _ h => h.drew) ?_
     refine wpd_p 0 rfl zz6 trivial (q_pure rfl) rfl sk0 ?_
     refine wpd_p 1 rfl zz6 trivial (q_pure rfl) rfl sk0 ?_
     refine wpd_p 2 rfl zz6 trivial (q_idxW Try.underlying26 Try.ti62 rfl rfl zz2 zz0) rfl sk0 ?_
     refine wpd_q 3 rfl zz6 trivial (q_ldWN Try.underlying62 rfl Try.ti62 rfl (fun w h => zz12) (v8s (xs.getD i [])) (part8 hlxs zz11) ((v8s_length _).trans g1)) rfl (fun _ h => h) ?_
     refine wpd_p 4 rfl zz6 trivial (q_pure rfl) rfl sk0 ?_
     refine wpd_p 5 rfl zz6 trivial (q_pure rfl) rfl sk0 ?_
     refine wpd_p 6 rfl zz6 trivial (q_idxW Try.underlying26 Try.ti62 rfl rfl zz2 zz0) rfl sk0 ?_
     refine wpd_q 7 rfl zz6 trivial (q_ldWN Try.underlying62 rfl Try.ti62 rfl (fun w h => zz12) (v8s (ys.getD i [])) (part8 hlys zz11) ((v8s_length _).trans g2)) rfl (fun _ h => h) ?_
     refine wpd_p 8 rfl zz6 trivial (q_ne8 eq8_62 zz6 rfl rfl (by first | (first | with_reducible assumption | exact L16.h) | simp) (by first | (first | with_reducible assumption | exact L16.h) | simp)) rfl sk0 ?_
     refine wpd_done zz6 ?_
     refine ex_then ?_
     refine wpc_cond rfl (fun hc25 => ?_) (fun hc25 => ?_)
     ·
      have hee : ¬ xs.getD i [] = ys.getD i [] := by simpa using hc25
      have hne : xs ≠ ys := fun e => hee (by rw [e])
      refine wpc_seq <| wpc_region <| wpl_q (q_pure rfl) rfl <| wpl_nil <| ex_then <| wpc_ret ?_
      refine ex_block_ret ?_
      refine ex_then_ret ?_
      refine ex_then_ret ?_
      refine ex_block_ret ?_
      refine ex_then_ret ?_
      refine ret1 (.inl rfl) rfl rfl ?_
      exact fun w h => ⟨by simp [hne], h.below⟩
     ·
      have hee : xs.getD i [] = ys.getD i [] := by simpa using hc25
      refine wpc_skip <| ex_block <| ex_then <| wpc_region <| wpl_q (q_pure rfl) rfl ?_
      refine wpl_q (q_addN (b := 1) rfl rfl zz0) rfl ?_
      refine wpl_q (q_pure rfl) rfl <| wpl_nil ?_
      refine ex_again ⟨i + 1, ⟨by show i + 1 ≤ xs.length; omega, same_stepS xs ys i hi1 zz11 zz11 hee⟩⟩ ?_ ?_ ?_
      ·
       exact zz7
      ·
       exact fun w h => by first | exact h | exact h.sub SubC.h SubC.h | exact h.sub zz5 zz5
      ·
       (show xs.length - (i + 1) < xs.length - i); omega
    ·
     simp only [decide_eq_false_iff_not] at hc14
     obtain rfl : i = xs.length := by omega
     have heq : xs = ys := by rw [List.take_length, hl, List.take_length] at hi1; exact hi1
     refine wpc_exit ?_
     refine ex_then_exit ?_
     refine ex_then_exit ?_
     refine ex_block_hit ?_
     refine ex_then <| wpc_seq <| wpc_region <| wpl_q (q_pure rfl) rfl <| wpl_nil <| ex_then <| wpc_ret ?_
     refine ret1 (.inl rfl) rfl rfl ?_
     exact fun w h => ⟨by simp [heq], h.below⟩
end Go.Proofs.Ytgnablliekgbgaa
namespace Go.Proofs.Ytgnablliekgbgaa
open Go Go.PL Go.RowKit
theorem eqWin : EqC Try.prog 2 24 true 2 (fun cs => cs.length = 2 ∧ (IntCell .i64 ((cs.drop 0).take 1) ∧ (IntCell .i64 ((cs.drop 1).take 1) ∧ True))) := by
  refine eqc_struct Try.underlying24 Try.ti24 zz6 ?_
  refine EqFs.cons (sz := 1) (W := IntCell .i64) zz6 rfl (eqc_int Try.underlying2 Try.ti2) ?_
  refine EqFs.cons (sz := 1) (W := IntCell .i64) zz6 rfl (eqc_int Try.underlying2 Try.ti2) ?_
  exact EqFs.nil _
def wnL (a b : Int) : List Value := [.int .i64 a, .int .i64 b]
theorem wnL_inj {a b c d : Int} (h : wnL a b = wnL c d) : a = c ∧ b = d := by
  unfold wnL at h
  obtain ⟨h1, h2⟩ := List.cons.inj h
  obtain ⟨h3, _⟩ := List.cons.inj h2
  exact ⟨(Value.int.inj h1).2, (Value.int.inj h3).2⟩
theorem q_eqWin {n : Cx} {R : World → Prop} {L : Slots} {t' : TypeId} {x y : Operand} {a b c d : Int} (hx : ev L x = some (.agg (wnL a b).toArray)) (hy : ev L y = some (.agg (wnL c d).toArray)) : QOp Try.prog n R L (.binOp .eql 24 x y t') (.bool (decide (a = c ∧ b = d))) :=
  q_eqA eqWin zz18 zz6 hx hy ⟨rfl, ⟨_, rfl⟩, ⟨_, rfl⟩, trivial⟩ ⟨rfl, ⟨_, rfl⟩, ⟨_, rfl⟩, trivial⟩ _ (by
    rw [decide_eq_true_eq]; exact ⟨fun e => by rw [e.1, e.2], wnL_inj⟩)
theorem sameSig (ix1 : Int) (cv1 pv1 : Value) (chs1 ps1 : List (List UInt8)) (ix2 : Int) (cv2 pv2 : Value) (chs2 ps2 : List (List UInt8)) (w : World) (hcv1 : Seen w.cell? cv1 chs1.length 16 (v8s chs1.flatten)) (hlc1 : ∀ x ∈ chs1, x.length = 16) (hpv1 : Seen w.cell? pv1 ps1.length 16 (v8s ps1.flatten)) (hlp1 : ∀ x ∈ ps1, x.length = 16) (hcv2 : Seen w.cell? cv2 chs2.length 16 (v8s chs2.flatten)) (hlc2 : ∀ x ∈ chs2, x.length = 16) (hpv2 : Seen w.cell? pv2 ps2.length 16 (v8s ps2.flatten)) (hlp2 : ∀ x ∈ ps2, x.length = 16)  :
    Calls Try.prog 39 [.agg #[.int .i64 ix1, cv1, pv1], .agg #[.int .i64 ix2, cv2, pv2]].toArray w (Pur w (.bool (decide (ix1 = ix2 ∧ chs1 = chs2 ∧ ps1 = ps2)))) := by
  haveI : OneC [.int .i64 ix1, cv1, pv1] := OneC.cons rfl (OneC.cons (SV.one hcv1.sv) (OneC.cons (SV.one hpv1.sv) oneC_nil))
  haveI : OneC [.int .i64 ix2, cv2, pv2] := OneC.cons rfl (OneC.cons (SV.one hcv2.sv) (OneC.cons (SV.one hpv2.sv) oneC_nil))
  refine enter (m := 24) (R := Mem w [] [] []) Try.func39 rfl rfl (Nat.le_of_ble_eq_true rfl) (Mem.start w) ?_
  refine wpc_seq <| wpc_region ?_
  refine wpl_t (t_box rfl [.int .i64 ix1, cv1, pv1] rfl) rfl (fun b2 => ?_)
  refine wpl_t (t_box rfl [.int .i64 ix2, cv2, pv2] rfl) rfl (fun b3 => ?_)
  refine wpl_q (q_pure rfl) rfl <| wpl_nil <| ex_then <| wpc_seq <| wpc_region <| wpl_q (q_field Try.underlying28 rfl Try.ti3 rfl rfl _ rfl) rfl ?_
  refine wpl_q (q_ld Try.underlying3 rfl rfl zz23) rfl ?_
  refine wpl_q (q_field Try.underlying28 rfl Try.ti3 rfl rfl _ rfl) rfl ?_
  refine wpl_q (q_ld Try.underlying3 rfl rfl zz23) rfl ?_
  refine wpl_q (q_pure rfl) rfl <| wpl_q (q_pure rfl) rfl ?_
  refine wpl_bool2 10 9 rfl rfl (fun hb10 => ?_) (fun hb10 => ?_)
  ·
   have e1 : ix1 = ix2 := by simpa using hb10
   refine wpl_on rfl rfl <| wpl_q (q_field Try.underlying28 rfl Try.ti26 rfl rfl _ rfl) rfl <| wpl_on rfl rfl <| wpl_q (q_ld Try.underlying26 rfl rfl rfl) rfl <| wpl_on rfl rfl <| wpl_q (q_field Try.underlying28 rfl Try.ti26 rfl rfl _ rfl) rfl <| wpl_on rfl rfl <| wpl_q (q_ld Try.underlying26 rfl rfl rfl) rfl <| wpl_on rfl rfl ?_
   refine wpl_t (t_pur Try.hb69 rfl fun w h => sameShorts cv1 chs1 cv2 chs2 w (h.seen_old hcv1) hlc1 (h.seen_old hcv2) hlc2) rfl (fun b15 => ?_)
   refine wpl_q (q_pure rfl) rfl <| wpl_q (q_pure rfl) rfl ?_
   refine wpl_bool2 17 15 rfl rfl (fun hb17 => ?_) (fun hb17 => ?_)
   ·
    have e2 : chs1 = chs2 := by simpa using hb17
    refine wpl_on rfl rfl <| wpl_q (q_field Try.underlying28 rfl Try.ti26 rfl rfl _ rfl) rfl <| wpl_on rfl rfl <| wpl_q (q_ld Try.underlying26 rfl rfl rfl) rfl <| wpl_on rfl rfl <| wpl_q (q_field Try.underlying28 rfl Try.ti26 rfl rfl _ rfl) rfl <| wpl_on rfl rfl <| wpl_q (q_ld Try.underlying26 rfl rfl rfl) rfl <| wpl_on rfl rfl ?_
    refine wpl_t (t_pur Try.hb69 rfl fun w h => sameShorts pv1 ps1 pv2 ps2 w (h.seen_old hpv1) hlp1 (h.seen_old hpv2) hlp2) rfl (fun b22 => ?_)
    refine wpl_q (q_pure rfl) rfl <| wpl_q (q_pure rfl) rfl <| wpl_nil <| ex_then <| wpc_ret ?_
    refine ret1 (.inl rfl) rfl rfl ?_
    exact fun w h => ⟨congrArg (fun b => Ending.returned (Value.bool b)) zz27, h.below⟩
   ·
    have e2 : ¬ chs1 = chs2 := by simpa using hb17
    refine wpl_off rfl rfl rfl rfl <| wpl_off rfl rfl rfl rfl <| wpl_off rfl rfl rfl rfl <| wpl_off rfl rfl rfl rfl <| wpl_off rfl rfl rfl rfl <| wpl_q (q_pure rfl) rfl <| wpl_q (q_pure rfl) rfl <| wpl_nil <| ex_then <| wpc_ret ?_
    refine ret1 (.inl rfl) rfl rfl ?_
    exact fun w h => ⟨congrArg (fun b => Ending.returned (Value.bool b)) zz27, h.below⟩
  ·
   have e1 : ¬ ix1 = ix2 := by simpa using hb10
   refine wpl_off rfl rfl rfl rfl <| wpl_off rfl rfl rfl rfl <| wpl_off rfl rfl rfl rfl <| wpl_off rfl rfl rfl rfl <| wpl_off rfl rfl rfl rfl <| wpl_q (q_pure rfl) rfl <| wpl_q (q_pure rfl) rfl <| wpl_off rfl rfl rfl rfl <| wpl_off rfl rfl rfl rfl <| wpl_off rfl rfl rfl rfl <| wpl_off rfl rfl rfl rfl <| wpl_off rfl rfl rfl rfl ?_
   refine wpl_q (q_pure rfl) rfl <| wpl_q (q_pure rfl) rfl <| wpl_nil <| ex_then <| wpc_ret ?_
   refine ret1 (.inl rfl) rfl rfl ?_
   exact fun w h => ⟨congrArg (fun b => Ending.returned (Value.bool b)) zz27, h.below⟩
theorem refRvSame (a : Rv) (b : Rv) (w : World) (hla : a.seen w.cell?) (hlb : b.seen w.cell?)  :
    Calls Try.prog 15 [.agg a.c.toArray, .agg b.c.toArray].toArray w (Pur w (.bool (decide (a.eqv b)))) := by
  haveI := hla.svs.one
  haveI := hlb.svs.one
  refine enter (m := 38) (R := Mem w [] [] []) Try.func15 rfl rfl (Nat.le_of_ble_eq_true rfl) (Mem.start w) ?_
  refine wpc_seq <| wpc_region ?_
  refine wpl_t (t_box rfl a.c rfl) rfl (fun b2 => ?_)
  refine wpl_t (t_box rfl b.c rfl) rfl (fun b3 => ?_)
  refine wpl_q (q_pure rfl) rfl <| wpl_nil <| ex_then <| wpc_seq <| wpc_region <| wpl_q (q_field Try.underlying30 rfl Try.ti9 rfl rfl _ rfl) rfl <| wpl_q (q_ld Try.underlying9 rfl rfl (show a.c[0]? = some (str a.nm) from rfl)) rfl <| wpl_q (q_field Try.underlying30 rfl Try.ti9 rfl rfl _ rfl) rfl <| wpl_q (q_ld Try.underlying9 rfl rfl (show b.c[0]? = some (str b.nm) from rfl)) rfl ?_
  refine wpl_q (q_strEq Try.underlying9 rfl rfl zz6) rfl ?_
  refine wpl_q (q_pure rfl) rfl ?_
  refine wpl_bool2 10 9 rfl rfl (fun hb10 => ?_) (fun hb10 => ?_)
  ·
   have e1 : a.nm = b.nm := by simpa using hb10
   refine wpl_on rfl rfl <| wpl_q (q_field Try.underlying30 rfl Try.ti22 rfl rfl _ rfl) rfl <| wpl_on rfl rfl <| wpl_q (q_ld Try.underlying22 rfl rfl (show a.c[1]? = some (.int .u64 (a.no.toNat : Int)) from rfl)) rfl <| wpl_on rfl rfl <| wpl_q (q_field Try.underlying30 rfl Try.ti22 rfl rfl _ rfl) rfl <| wpl_on rfl rfl <| wpl_q (q_ld Try.underlying22 rfl rfl (show b.c[1]? = some (.int .u64 (b.no.toNat : Int)) from rfl)) rfl <| wpl_on rfl rfl <| wpl_q (q64_eql rfl rfl) rfl <| wpl_q (q_pure rfl) rfl <| wpl_q (q_pure rfl) rfl ?_
   refine wpl_bool2 17 15 rfl rfl (fun hb17 => ?_) (fun hb17 => ?_)
   ·
    have e2 : a.no = b.no := by simpa using hb17
    refine wpl_on rfl rfl <| wpl_q (q_field Try.underlying30 rfl Try.ti24 rfl rfl _ rfl) rfl <| wpl_on rfl rfl <| wpl_q (q_ldP Try.underlying24 rfl Try.ti24 rfl (wnL a.fr a.tt) rfl rfl) rfl <| wpl_on rfl rfl <| wpl_q (q_field Try.underlying30 rfl Try.ti24 rfl rfl _ rfl) rfl <| wpl_on rfl rfl <| wpl_q (q_ldP Try.underlying24 rfl Try.ti24 rfl (wnL b.fr b.tt) rfl rfl) rfl <| wpl_on rfl rfl <| wpl_q (q_eqWin rfl rfl) rfl <| wpl_q (q_pure rfl) rfl <| wpl_q (q_pure rfl) rfl ?_
    refine wpl_bool2 24 22 rfl rfl (fun hb24 => ?_) (fun hb24 => ?_)
    ·
     have e3 : (a.fr = b.fr ∧ a.tt = b.tt) := by simpa using hb24
     refine wpl_on rfl rfl <| wpl_q (q_field Try.underlying30 rfl Try.ti25 rfl rfl _ rfl) rfl <| wpl_on rfl rfl <| wpl_q (q_ld Try.underlying25 rfl rfl (show a.c[4]? = some (a.sv) from rfl)) rfl <| wpl_on rfl rfl <| wpl_q (q_field Try.underlying30 rfl Try.ti25 rfl rfl _ rfl) rfl <| wpl_on rfl rfl <| wpl_q (q_ld Try.underlying25 rfl rfl (show b.c[4]? = some (b.sv) from rfl)) rfl <| wpl_on rfl rfl ?_
     refine wpl_t (t_pur Try.hb38 rfl fun w h => sameNumbers a.sv a.ss b.sv b.ss w (h.seen_old hla.s) (h.seen_old hlb.s)) rfl (fun b29 => ?_)
     refine wpl_q (q_pure rfl) rfl <| wpl_q (q_pure rfl) rfl ?_
     refine wpl_bool2 31 29 rfl rfl (fun hb31 => ?_) (fun hb31 => ?_)
     ·
      have e4 : a.ss = b.ss := by simpa using hb31
      refine wpl_on rfl rfl <| wpl_q (q_field Try.underlying30 rfl Try.ti28 rfl rfl _ rfl) rfl <| wpl_on rfl rfl <| wpl_q (q_ldP Try.underlying28 rfl Try.ti28 rfl a.sig rfl rfl) rfl <| wpl_on rfl rfl <| wpl_q (q_field Try.underlying30 rfl Try.ti28 rfl rfl _ rfl) rfl <| wpl_on rfl rfl <| wpl_q (q_ldP Try.underlying28 rfl Try.ti28 rfl b.sig rfl rfl) rfl <| wpl_on rfl rfl ?_
      refine wpl_t (t_pur Try.hb39 rfl fun w h => sameSig a.ix a.cv a.pv a.chs a.ps b.ix b.cv b.pv b.chs b.ps w (h.seen_old hla.c) hla.lc (h.seen_old hla.p) hla.lp (h.seen_old hlb.c) hlb.lc (h.seen_old hlb.p) hlb.lp) rfl (fun b36 => ?_)
      refine wpl_q (q_pure rfl) rfl <| wpl_q (q_pure rfl) rfl <| wpl_nil <| ex_then <| wpc_ret ?_
      refine ret1 (.inl rfl) rfl rfl ?_
      exact fun w h => ⟨congrArg (fun b => Ending.returned (Value.bool b)) zz13, h.below⟩
     ·
      have e4 : ¬ a.ss = b.ss := by simpa using hb31
      refine wpl_off rfl rfl rfl rfl <| wpl_off rfl rfl rfl rfl <| wpl_off rfl rfl rfl rfl <| wpl_off rfl rfl rfl rfl <| wpl_off rfl rfl rfl rfl <| wpl_q (q_pure rfl) rfl <| wpl_q (q_pure rfl) rfl <| wpl_nil <| ex_then <| wpc_ret ?_
      refine ret1 (.inl rfl) rfl rfl ?_
      exact fun w h => ⟨congrArg (fun b => Ending.returned (Value.bool b)) zz13, h.below⟩
    ·
     have e3 : ¬ (a.fr = b.fr ∧ a.tt = b.tt) := by simpa using hb24
     refine wpl_off rfl rfl rfl rfl <| wpl_off rfl rfl rfl rfl <| wpl_off rfl rfl rfl rfl <| wpl_off rfl rfl rfl rfl <| wpl_off rfl rfl rfl rfl <| wpl_q (q_pure rfl) rfl <| wpl_q (q_pure rfl) rfl <| wpl_off rfl rfl rfl rfl <| wpl_off rfl rfl rfl rfl <| wpl_off rfl rfl rfl rfl <| wpl_off rfl rfl rfl rfl <| wpl_off rfl rfl rfl rfl ?_
     refine wpl_q (q_pure rfl) rfl <| wpl_q (q_pure rfl) rfl <| wpl_nil <| ex_then <| wpc_ret ?_
     refine ret1 (.inl rfl) rfl rfl ?_
     exact fun w h => ⟨congrArg (fun b => Ending.returned (Value.bool b)) zz13, h.below⟩
   ·
    have e2 : ¬ a.no = b.no := by simpa using hb17
    refine wpl_off rfl rfl rfl rfl <| wpl_off rfl rfl rfl rfl <| wpl_off rfl rfl rfl rfl <| wpl_off rfl rfl rfl rfl <| wpl_off rfl rfl rfl rfl <| wpl_q (q_pure rfl) rfl <| wpl_q (q_pure rfl) rfl <| wpl_off rfl rfl rfl rfl <| wpl_off rfl rfl rfl rfl <| wpl_off rfl rfl rfl rfl <| wpl_off rfl rfl rfl rfl <| wpl_off rfl rfl rfl rfl ?_
    refine wpl_q (q_pure rfl) rfl <| wpl_q (q_pure rfl) rfl <| wpl_off rfl rfl rfl rfl <| wpl_off rfl rfl rfl rfl <| wpl_off rfl rfl rfl rfl <| wpl_off rfl rfl rfl rfl <| wpl_off rfl rfl rfl rfl <| wpl_q (q_pure rfl) rfl <| wpl_q (q_pure rfl) rfl <| wpl_nil <| ex_then <| wpc_ret ?_
    refine ret1 (.inl rfl) rfl rfl ?_
    exact fun w h => ⟨congrArg (fun b => Ending.returned (Value.bool b)) zz13, h.below⟩
  ·
   have e1 : ¬ a.nm = b.nm := by simpa using hb10
   refine wpl_off rfl rfl rfl rfl <| wpl_off rfl rfl rfl rfl <| wpl_off rfl rfl rfl rfl <| wpl_off rfl rfl rfl rfl <| wpl_off rfl rfl rfl rfl <| wpl_q (q_pure rfl) rfl <| wpl_q (q_pure rfl) rfl <| wpl_off rfl rfl rfl rfl <| wpl_off rfl rfl rfl rfl <| wpl_off rfl rfl rfl rfl <| wpl_off rfl rfl rfl rfl <| wpl_off rfl rfl rfl rfl ?_
   refine wpl_q (q_pure rfl) rfl <| wpl_q (q_pure rfl) rfl <| wpl_off rfl rfl rfl rfl <| wpl_off rfl rfl rfl rfl <| wpl_off rfl rfl rfl rfl <| wpl_off rfl rfl rfl rfl <| wpl_off rfl rfl rfl rfl <| wpl_q (q_pure rfl) rfl <| wpl_q (q_pure rfl) rfl <| wpl_off rfl rfl rfl rfl <| wpl_off rfl rfl rfl rfl <| wpl_off rfl rfl rfl rfl ?_
   refine wpl_off rfl rfl rfl rfl <| wpl_off rfl rfl rfl rfl <| wpl_q (q_pure rfl) rfl <| wpl_q (q_pure rfl) rfl <| wpl_nil <| ex_then <| wpc_ret ?_
   refine ret1 (.inl rfl) rfl rfl ?_
   exact fun w h => ⟨congrArg (fun b => Ending.returned (Value.bool b)) zz13, h.below⟩
theorem greatSig (ix : Int) (cv pv : Value) (chs ps : List (List UInt8)) (w : World) (hcv : SV cv chs.length) (hpv : SV pv ps.length)  :
    Calls Try.prog 26 [.agg #[.int .i64 ix, cv, pv]].toArray w (Pur w (.bool (decide (60 < chs.length) || decide (60 < ps.length)))) := by
  haveI : OneC [.int .i64 ix, cv, pv] := OneC.cons rfl (OneC.cons (SV.one hcv) (OneC.cons (SV.one hpv) oneC_nil))
  have lcv := hcv.le
  have lpv := hpv.le
  simp only [maxLen] at lcv lpv
  refine enter (m := 13) (R := Mem w [] [] []) Try.func26 rfl rfl (Nat.le_of_ble_eq_true rfl) (Mem.start w) ?_
  refine wpc_seq <| wpc_region ?_
  refine wpl_t (t_box rfl [.int .i64 ix, cv, pv] rfl) rfl (fun b1 => ?_)
  refine wpl_q (q_pure rfl) rfl <| wpl_nil <| ex_then <| wpc_seq <| wpc_region <| wpl_q (q_field Try.underlying28 rfl Try.ti26 rfl rfl _ rfl) rfl <| wpl_q (q_ld Try.underlying26 rfl rfl rfl) rfl ?_
  refine wpl_q (q_lenW Try.underlying26 rfl zz2) rfl ?_
  refine wpl_q (q_pure rfl) rfl <| wpl_q (q_pure rfl) rfl ?_
  refine wpl_bool2 7 6 rfl rfl (fun hb7 => ?_) (fun hb7 => ?_)
  ·
   try simp only [decide_eq_true_eq, decide_eq_false_iff_not, Bool.and_eq_true, Bool.or_eq_true, beq_iff_eq, bne_iff_ne, ne_eq, Bool.not_eq_true', Bool.not_eq_false', Decidable.not_not] at hb7
   refine wpl_off rfl rfl rfl rfl <| wpl_off rfl rfl rfl rfl <| wpl_off rfl rfl rfl rfl <| wpl_off rfl rfl rfl rfl <| wpl_q (q_pure rfl) rfl <| wpl_q (q_pure rfl) rfl <| wpl_nil <| ex_then <| wpc_ret ?_
   refine ret1 (.inl rfl) rfl rfl ?_
   exact fun w h => ⟨congrArg (fun b => Ending.returned (Value.bool b)) (by (try simp only [decide_eq_true_eq, decide_eq_false_iff_not, gt_iff_lt] at *); rw [Bool.eq_iff_iff]; simp only [Bool.or_eq_true, decide_eq_true_eq, true_iff]; omega), h.below⟩
  ·
   try simp only [decide_eq_true_eq, decide_eq_false_iff_not, Bool.and_eq_true, Bool.or_eq_true, beq_iff_eq, bne_iff_ne, ne_eq, Bool.not_eq_true', Bool.not_eq_false', Decidable.not_not] at hb7
   refine wpl_on rfl rfl <| wpl_q (q_field Try.underlying28 rfl Try.ti26 rfl rfl _ rfl) rfl <| wpl_on rfl rfl <| wpl_q (q_ld Try.underlying26 rfl rfl rfl) rfl <| wpl_on rfl rfl ?_
   refine wpl_q (q_lenW Try.underlying26 rfl zz2) rfl ?_
   refine wpl_on rfl rfl <| wpl_q (q_pure rfl) rfl <| wpl_q (q_pure rfl) rfl <| wpl_q (q_pure rfl) rfl <| wpl_nil <| ex_then <| wpc_ret ?_
   refine ret1 (.inl rfl) rfl rfl ?_
   exact fun w h => ⟨congrArg (fun b => Ending.returned (Value.bool b)) (by (try simp only [decide_eq_true_eq, decide_eq_false_iff_not, gt_iff_lt] at *); rw [Bool.eq_iff_iff]; simp only [Bool.or_eq_true, decide_eq_true_eq, true_iff]; omega), h.below⟩
theorem refRvGreat (l : Rv) (w : World) (hl : l.seen w.cell?) (hnl : l.nm.length ≤ maxLen)  :
    Calls Try.prog 7 [.agg l.c.toArray].toArray w (Pur w (.bool (bigR l))) := by
  haveI := hl.svs.one
  have lss := hl.s.sv.le
  have lcs := hl.c.sv.le
  have lps := hl.p.sv.le
  have sss := hl.s.sv
  have scs := hl.c.sv
  have sps := hl.p.sv
  simp only [maxLen] at lss lcs lps
  refine enter (m := 18) (R := Mem w [] [] []) Try.func7 rfl rfl (Nat.le_of_ble_eq_true rfl) (Mem.start w) ?_
  refine wpc_seq <| wpc_region ?_
  refine wpl_t (t_box rfl l.c rfl) rfl (fun b1 => ?_)
  refine wpl_q (q_pure rfl) rfl <| wpl_nil <| ex_then <| wpc_seq <| wpc_region <| wpl_q (q_field Try.underlying30 rfl Try.ti9 rfl rfl _ rfl) rfl <| wpl_q (q_ld Try.underlying9 rfl rfl (show l.c[0]? = some (str l.nm) from rfl)) rfl <| wpl_q (q_lenS Try.underlying9 rfl) rfl <| wpl_q (q_pure rfl) rfl <| wpl_q (q_pure rfl) rfl ?_
  refine wpl_bool2 7 6 rfl rfl (fun hb7 => ?_) (fun hb7 => ?_)
  ·
   have g1 : 500 < l.nm.length := by have := of_decide_eq_true hb7; omega
   refine wpl_off rfl rfl rfl rfl <| wpl_off rfl rfl rfl rfl <| wpl_off rfl rfl rfl rfl <| wpl_off rfl rfl rfl rfl <| wpl_q (q_pure rfl) rfl <| wpl_q (q_pure rfl) rfl <| wpl_off rfl rfl rfl rfl <| wpl_off rfl rfl rfl rfl <| wpl_off rfl rfl rfl rfl <| wpl_q (q_pure rfl) rfl <| wpl_q (q_pure rfl) rfl <| wpl_nil ?_
   refine ex_then <| wpc_ret ?_
   refine ret1 (.inl rfl) rfl rfl ?_
   exact fun w h => ⟨congrArg (fun b => Ending.returned (Value.bool b)) zz34, h.below⟩
  ·
   have g1 : ¬ 500 < l.nm.length := by have := of_decide_eq_false hb7; omega
   refine wpl_on rfl rfl <| wpl_q (q_field Try.underlying30 rfl Try.ti25 rfl rfl _ rfl) rfl <| wpl_on rfl rfl <| wpl_q (q_ld Try.underlying25 rfl rfl (show l.c[4]? = some (l.sv) from rfl)) rfl <| wpl_on rfl rfl ?_
   refine wpl_q (q_lenW Try.underlying25 rfl zz2) rfl ?_
   refine wpl_on rfl rfl <| wpl_q (q_pure rfl) rfl <| wpl_q (q_pure rfl) rfl <| wpl_q (q_pure rfl) rfl ?_
   refine wpl_bool2 13 11 rfl rfl (fun hb13 => ?_) (fun hb13 => ?_)
   ·
    have g2 : 520 < l.ss.length := by have := of_decide_eq_true hb13; omega
    refine wpl_off rfl rfl rfl rfl <| wpl_off rfl rfl rfl rfl <| wpl_off rfl rfl rfl rfl <| wpl_q (q_pure rfl) rfl <| wpl_q (q_pure rfl) rfl <| wpl_nil <| ex_then <| wpc_ret ?_
    refine ret1 (.inl rfl) rfl rfl ?_
    exact fun w h => ⟨congrArg (fun b => Ending.returned (Value.bool b)) zz34, h.below⟩
   ·
    have g2 : ¬ 520 < l.ss.length := by have := of_decide_eq_false hb13; omega
    refine wpl_on rfl rfl <| wpl_q (q_field Try.underlying30 rfl Try.ti28 rfl rfl _ rfl) rfl <| wpl_on rfl rfl <| wpl_q (q_ldP Try.underlying28 rfl Try.ti28 rfl l.sig rfl rfl) rfl <| wpl_on rfl rfl ?_
    refine wpl_t (t_pur Try.hb26 rfl fun w h => greatSig l.ix l.cv l.pv l.chs l.ps w scs sps) rfl (fun b16 => ?_)
    refine wpl_q (q_pure rfl) rfl <| wpl_q (q_pure rfl) rfl <| wpl_nil <| ex_then <| wpc_ret ?_
    refine ret1 (.inl rfl) rfl rfl ?_
    exact fun w h => ⟨congrArg (fun b => Ending.returned (Value.bool b)) zz34, h.below⟩
end Go.Proofs.Ytgnablliekgbgaa
namespace Go.Proofs.Ytgnablliekgbgaa
open Go Go.PL Go.RowKit
def Rv.wp (l : Rv) (v : Value) : Rv := { l with pv := v }
end Go.Proofs.Ytgnablliekgbgaa
namespace Go.Proofs.Ytgnablliekgbgaa
open Go Go.PL Go.RowKit
theorem refPower7 (m : Nat) (w : World)  (hm : m ≤ 30) :
    Calls Try.prog 94 [.int .i64 ((m : Nat) : Int)].toArray w (Pur w (.int .i64 ((2 ^ m : Nat) : Int))) := by
  refine enter (m := 14) (R := Mem w [] [] []) Try.func94 rfl rfl (Nat.le_of_ble_eq_true rfl) (Mem.start w) ?_
  refine wpc_seq <| wpc_region <| wpl_q (q_pure rfl) rfl <| wpl_nil <| ex_then <| wpc_seq <| wpc_region <| wpl_q (q_pure rfl) rfl <| wpl_nil <| ex_then <| wpc_seq <| wpc_seq ?_
  refine wpc_region <| wpl_q (q_pure rfl) rfl <| wpl_nil <| ex_then <| wpc_block ?_
  refine wpc_loopc (ι := { x : Nat × Nat // (x.1 ≤ m) ∧ (x.2 = 2 ^ x.1) }) [(0, _)] (fun x Lc => (4, .int .i64 ((x.1.1 : Nat) : Int)) :: (3, .int .i64 ((x.1.2 : Nat) : Int)) :: Lc) (fun x => Mem w [] [] []) (fun x => m - x.1.1) ⟨(0, 1), ⟨Nat.zero_le _, rfl⟩⟩ zz7 ?_ ?_
  ·
   exact fun w h => h
  ·
   rintro ⟨⟨i, s⟩, ⟨hi0, hi1⟩⟩; try dsimp only
   have hi0 : i ≤ m := hi0; have hi1 : s = 2 ^ i := hi1
   have hp : 2 ^ i ≤ 2 ^ 30 := Nat.pow_le_pow_right zz18 zz11
   refine wpc_seq <| wpc_seq <| wpc_region <| wpl_q (q_pure rfl) rfl <| wpl_q (q_pure rfl) rfl <| wpl_q (q_pure rfl) rfl <| wpl_nil <| ex_then ?_
   refine wpc_cond rfl (fun hc7 => ?_) (fun hc7 => ?_)
   ·
    try simp only [decide_eq_true_eq, decide_eq_false_iff_not, Bool.and_eq_true, Bool.or_eq_true, beq_iff_eq, bne_iff_ne, ne_eq, Bool.not_eq_true', Bool.not_eq_false', Decidable.not_not] at hc7
    refine wpc_skip <| ex_then <| wpc_seq <| wpc_block <| wpc_region <| wpl_q (q_pure rfl) rfl <| wpl_q (q_pure rfl) rfl ?_
    refine wpl_q (q_addN rfl rfl zz0) rfl ?_
    refine wpl_q (q_pure rfl) rfl <| wpl_nil <| ex_block <| ex_then <| wpc_region <| wpl_q (q_pure rfl) rfl ?_
    refine wpl_q (q_addN (b := 1) rfl rfl zz0) rfl ?_
    refine wpl_q (q_pure rfl) rfl <| wpl_nil ?_
    refine ex_again ⟨(i + 1, s + s), ⟨zz11, by rw [Nat.pow_succ]; omega⟩⟩ ?_ ?_ ?_
    ·
     exact zz7
    ·
     exact fun w h => by first | exact h | exact h.sub SubC.h SubC.h | exact h.sub zz5 zz5
    ·
     (show m - (i + 1) < m - i); omega
   ·
    simp only [decide_eq_false_iff_not] at hc7
    obtain rfl : i = m := by omega
    refine wpc_exit ?_
    refine ex_then_exit ?_
    refine ex_then_exit ?_
    refine ex_block_hit ?_
    refine ex_then <| wpc_seq <| wpc_region <| wpl_q (q_pure rfl) rfl <| wpl_q (q_pure rfl) rfl <| wpl_nil <| ex_then <| wpc_ret ?_
    refine ret1 (.inl rfl) rfl rfl ?_
    exact fun w h => ⟨by rw [hi1], h.below⟩
theorem refCheck7 (ht : Int) (ix : Int) (cv pv : Value) (chs ps : List (List UInt8)) (w : World) (hcv : SV cv chs.length) (hpv : SV pv ps.length)  :
    Calls Try.prog 68 [.int .i64 ht, .agg #[.int .i64 ix, cv, pv]].toArray w (Pur w (.int .i64 (sgChk ht ix chs.length ps.length))) := by
  haveI : OneC [.int .i64 ix, cv, pv] := OneC.cons rfl (OneC.cons (SV.one hcv) (OneC.cons (SV.one hpv) oneC_nil))
  have lcv := hcv.le
  have lpv := hpv.le
  simp only [maxLen] at lcv lpv
  refine enter (m := 34) (R := Mem w [] [] []) Try.func68 rfl rfl (Nat.le_of_ble_eq_true rfl) (Mem.start w) ?_
  refine wpc_seq <| wpc_region ?_
  refine wpl_t (t_box rfl [.int .i64 ix, cv, pv] rfl) rfl (fun b3 => ?_)
  refine wpl_q (q_pure rfl) rfl <| wpl_nil <| ex_then <| wpc_seq <| wpc_seq <| wpc_region <| wpl_q (q_pure rfl) rfl <| wpl_q (q_pure rfl) rfl <| wpl_q (q_pure rfl) rfl ?_
  refine wpl_bool2 7 6 rfl rfl (fun hb7 => ?_) (fun hb7 => ?_)
  ·
   try simp only [decide_eq_true_eq, decide_eq_false_iff_not, Bool.and_eq_true, Bool.or_eq_true, beq_iff_eq, bne_iff_ne, ne_eq, Bool.not_eq_true', Bool.not_eq_false', Decidable.not_not] at hb7
   refine wpl_off rfl rfl rfl rfl <| wpl_off rfl rfl rfl rfl <| wpl_q (q_pure rfl) rfl <| wpl_nil <| ex_then ?_
   refine wpc_cond_t rfl ?_
   refine wpc_seq <| wpc_region <| wpl_q (q_pure rfl) rfl <| wpl_nil <| ex_then <| wpc_ret ?_
   refine ex_then_ret ?_
   refine ret1 (.inl rfl) rfl rfl ?_
   exact fun w h => ⟨by rw [check_2 (by first | omega | (simp only [decide_eq_true_eq] at *; omega))], h.below⟩
  ·
   try simp only [decide_eq_true_eq, decide_eq_false_iff_not, Bool.and_eq_true, Bool.or_eq_true, beq_iff_eq, bne_iff_ne, ne_eq, Bool.not_eq_true', Bool.not_eq_false', Decidable.not_not] at hb7
   refine wpl_on rfl rfl <| wpl_q (q_pure rfl) rfl <| wpl_on rfl rfl <| wpl_q (q_pure rfl) rfl <| wpl_q (q_pure rfl) rfl <| wpl_nil <| ex_then ?_
   refine wpc_cond rfl (fun hc10 => ?_) (fun hc10 => ?_)
   ·
    try simp only [decide_eq_true_eq, decide_eq_false_iff_not, Bool.and_eq_true, Bool.or_eq_true, beq_iff_eq, bne_iff_ne, ne_eq, Bool.not_eq_true', Bool.not_eq_false', Decidable.not_not] at hc10
    refine wpc_seq <| wpc_region <| wpl_q (q_pure rfl) rfl <| wpl_nil <| ex_then <| wpc_ret ?_
    refine ex_then_ret ?_
    refine ret1 (.inl rfl) rfl rfl ?_
    exact fun w h => ⟨by rw [check_2 (by first | omega | (simp only [decide_eq_true_eq] at *; omega))], h.below⟩
   ·
    simp only [decide_eq_false_iff_not, decide_eq_true_eq] at hc10
    obtain ⟨m, rfl⟩ : ∃ m : Nat, ht = (m : Int) := ⟨ht.toNat, zz11⟩
    have hpw := pow_le16 (m := m) zz11
    refine wpc_skip <| ex_then <| wpc_seq <| wpc_seq ?_
    refine wpc_draw 23 zz6 (fun _ h => h.drew) ?_
    refine wpd_p 0 rfl zz6 trivial (q_field Try.underlying28 rfl Try.ti3 rfl rfl _ rfl) rfl sk0 ?_
    refine wpd_q 1 rfl zz6 trivial (q_ld Try.underlying3 rfl rfl zz23) rfl (fun _ h => h) ?_
    refine wpd_p 2 rfl zz6 trivial (q_pure rfl) rfl sk0 ?_
    refine wpd_p 3 rfl zz6 trivial (q_pure rfl) rfl sk0 ?_
    refine wpd_bool2 14 13 rfl rfl (fun hb14 => ?_) (fun hb14 => ?_)
    ·
     try simp only [decide_eq_true_eq, decide_eq_false_iff_not, Bool.and_eq_true, Bool.or_eq_true, beq_iff_eq, bne_iff_ne, ne_eq, Bool.not_eq_true', Bool.not_eq_false', Decidable.not_not] at hb14
     refine wpd_off 4 rfl zz6 ⟨_, _, rfl, rfl, rfl⟩ rfl sk0 ?_
     refine wpd_off 5 rfl zz6 ⟨_, _, rfl, rfl, rfl⟩ rfl sk0 ?_
     refine wpd_off 6 rfl zz6 ⟨_, _, rfl, rfl, rfl⟩ rfl sk0 ?_
     refine wpd_off 7 rfl zz6 ⟨_, _, rfl, rfl, rfl⟩ rfl sk0 ?_
     refine wpd_off 8 rfl zz6 ⟨_, _, rfl, rfl, rfl⟩ rfl sk0 ?_
     refine wpd_p 9 rfl zz6 trivial (q_pure rfl) rfl sk0 ?_
     refine wpd_p 10 rfl zz6 trivial (q_pure rfl) rfl sk0 ?_
     refine wpd_off 11 rfl zz6 ⟨_, _, rfl, rfl, rfl⟩ rfl sk0 ?_
     refine wpd_off 12 rfl zz6 ⟨_, _, rfl, rfl, rfl⟩ rfl sk0 ?_
     refine wpd_off 13 rfl zz6 ⟨_, _, rfl, rfl, rfl⟩ rfl sk0 ?_
     refine wpd_off 14 rfl zz6 ⟨_, _, rfl, rfl, rfl⟩ rfl sk0 ?_
     refine wpd_p 15 rfl zz6 trivial (q_pure rfl) rfl sk0 ?_
     refine wpd_p 16 rfl zz6 trivial (q_pure rfl) rfl sk0 ?_
     refine wpd_off 17 rfl zz6 ⟨_, _, rfl, rfl, rfl⟩ rfl sk0 ?_
     refine wpd_off 18 rfl zz6 ⟨_, _, rfl, rfl, rfl⟩ rfl sk0 ?_
     refine wpd_off 19 rfl zz6 ⟨_, _, rfl, rfl, rfl⟩ rfl sk0 ?_
     refine wpd_off 20 rfl zz6 ⟨_, _, rfl, rfl, rfl⟩ rfl sk0 ?_
     refine wpd_off 21 rfl zz6 ⟨_, _, rfl, rfl, rfl⟩ rfl sk0 ?_
     refine wpd_p 22 rfl zz6 trivial (q_pure rfl) rfl sk0 ?_
     refine wpd_done zz6 ?_
     refine ex_then ?_
     refine wpc_cond_t rfl ?_
     refine wpc_seq <| wpc_region <| wpl_q (q_pure rfl) rfl <| wpl_nil <| ex_then <| wpc_ret ?_
     refine ex_then_ret ?_
     refine ret1 (.inl rfl) rfl rfl ?_
     exact fun w h => ⟨zz24, h.below⟩
    ·
     try simp only [decide_eq_true_eq, decide_eq_false_iff_not, Bool.and_eq_true, Bool.or_eq_true, beq_iff_eq, bne_iff_ne, ne_eq, Bool.not_eq_true', Bool.not_eq_false', Decidable.not_not] at hb14
     refine wpd_p 4 rfl zz6 ⟨_, rfl, rfl⟩ (q_field Try.underlying28 rfl Try.ti3 rfl rfl _ rfl) rfl sk0 ?_
     refine wpd_q 5 rfl zz6 ⟨_, rfl, rfl⟩ (q_ld Try.underlying3 rfl rfl zz23) rfl (fun _ h => h) ?_
     refine wpd_p 6 rfl zz6 ⟨_, rfl, rfl⟩ (q_pure rfl) rfl sk0 ?_
     refine wpd_t 7 rfl zz6 ⟨_, rfl, rfl⟩ (t_pur Try.hb94 rfl fun w h => refPower7 m w zz11) rfl (fun _ => sk0) (fun b18 => ?_)
     refine wpd_p 8 rfl zz6 ⟨_, rfl, rfl⟩ (q_pure rfl) rfl sk0 ?_
     refine wpd_p 9 rfl zz6 trivial (q_pure rfl) rfl sk0 ?_
     refine wpd_p 10 rfl zz6 trivial (q_pure rfl) rfl sk0 ?_
     refine wpd_bool2 21 19 rfl rfl (fun hb21 => ?_) (fun hb21 => ?_)
     ·
      try simp only [decide_eq_true_eq, decide_eq_false_iff_not, Bool.and_eq_true, Bool.or_eq_true, beq_iff_eq, bne_iff_ne, ne_eq, Bool.not_eq_true', Bool.not_eq_false', Decidable.not_not] at hb21
      refine wpd_off 11 rfl zz6 ⟨_, _, rfl, rfl, rfl⟩ rfl sk0 ?_
      refine wpd_off 12 rfl zz6 ⟨_, _, rfl, rfl, rfl⟩ rfl sk0 ?_
      refine wpd_off 13 rfl zz6 ⟨_, _, rfl, rfl, rfl⟩ rfl sk0 ?_
      refine wpd_off 14 rfl zz6 ⟨_, _, rfl, rfl, rfl⟩ rfl sk0 ?_
      refine wpd_p 15 rfl zz6 trivial (q_pure rfl) rfl sk0 ?_
      refine wpd_p 16 rfl zz6 trivial (q_pure rfl) rfl sk0 ?_
      refine wpd_off 17 rfl zz6 ⟨_, _, rfl, rfl, rfl⟩ rfl sk0 ?_
      refine wpd_off 18 rfl zz6 ⟨_, _, rfl, rfl, rfl⟩ rfl sk0 ?_
      refine wpd_off 19 rfl zz6 ⟨_, _, rfl, rfl, rfl⟩ rfl sk0 ?_
      refine wpd_off 20 rfl zz6 ⟨_, _, rfl, rfl, rfl⟩ rfl sk0 ?_
      refine wpd_off 21 rfl zz6 ⟨_, _, rfl, rfl, rfl⟩ rfl sk0 ?_
      refine wpd_p 22 rfl zz6 trivial (q_pure rfl) rfl sk0 ?_
      refine wpd_done zz6 ?_
      refine ex_then ?_
      refine wpc_cond_t rfl ?_
      refine wpc_seq <| wpc_region <| wpl_q (q_pure rfl) rfl <| wpl_nil <| ex_then <| wpc_ret ?_
      refine ex_then_ret ?_
      refine ret1 (.inl rfl) rfl rfl ?_
      exact fun w h => ⟨zz24, h.below⟩
     ·
      try simp only [decide_eq_true_eq, decide_eq_false_iff_not, Bool.and_eq_true, Bool.or_eq_true, beq_iff_eq, bne_iff_ne, ne_eq, Bool.not_eq_true', Bool.not_eq_false', Decidable.not_not] at hb21
      refine wpd_p 11 rfl zz6 ⟨_, rfl, rfl⟩ (q_field Try.underlying28 rfl Try.ti26 rfl rfl _ rfl) rfl sk0 ?_
      refine wpd_q 12 rfl zz6 ⟨_, rfl, rfl⟩ (q_ld Try.underlying26 rfl rfl rfl) rfl (fun _ h => h) ?_
      refine wpd_p 13 rfl zz6 ⟨_, rfl, rfl⟩ (q_lenW Try.underlying26 rfl zz2) rfl sk0 ?_
      refine wpd_p 14 rfl zz6 ⟨_, rfl, rfl⟩ (q_pure rfl) rfl sk0 ?_
      refine wpd_p 15 rfl zz6 trivial (q_pure rfl) rfl sk0 ?_
      refine wpd_p 16 rfl zz6 trivial (q_pure rfl) rfl sk0 ?_
      refine wpd_bool2 27 25 rfl rfl (fun hb27 => ?_) (fun hb27 => ?_)
      ·
       try simp only [decide_eq_true_eq, decide_eq_false_iff_not, Bool.and_eq_true, Bool.or_eq_true, beq_iff_eq, bne_iff_ne, ne_eq, Bool.not_eq_true', Bool.not_eq_false', Decidable.not_not] at hb27
       refine wpd_off 17 rfl zz6 ⟨_, _, rfl, rfl, rfl⟩ rfl sk0 ?_
       refine wpd_off 18 rfl zz6 ⟨_, _, rfl, rfl, rfl⟩ rfl sk0 ?_
       refine wpd_off 19 rfl zz6 ⟨_, _, rfl, rfl, rfl⟩ rfl sk0 ?_
       refine wpd_off 20 rfl zz6 ⟨_, _, rfl, rfl, rfl⟩ rfl sk0 ?_
       refine wpd_off 21 rfl zz6 ⟨_, _, rfl, rfl, rfl⟩ rfl sk0 ?_
       refine wpd_p 22 rfl zz6 trivial (q_pure rfl) rfl sk0 ?_
       refine wpd_done zz6 ?_
       refine ex_then ?_
       refine wpc_cond_t rfl ?_
       refine wpc_seq <| wpc_region <| wpl_q (q_pure rfl) rfl <| wpl_nil <| ex_then <| wpc_ret ?_
       refine ex_then_ret ?_
       refine ret1 (.inl rfl) rfl rfl ?_
       exact fun w h => ⟨zz24, h.below⟩
      ·
       try simp only [decide_eq_true_eq, decide_eq_false_iff_not, Bool.and_eq_true, Bool.or_eq_true, beq_iff_eq, bne_iff_ne, ne_eq, Bool.not_eq_true', Bool.not_eq_false', Decidable.not_not] at hb27
       refine wpd_p 17 rfl zz6 ⟨_, rfl, rfl⟩ (q_field Try.underlying28 rfl Try.ti26 rfl rfl _ rfl) rfl sk0 ?_
       refine wpd_q 18 rfl zz6 ⟨_, rfl, rfl⟩ (q_ld Try.underlying26 rfl rfl rfl) rfl (fun _ h => h) ?_
       refine wpd_p 19 rfl zz6 ⟨_, rfl, rfl⟩ (q_lenW Try.underlying26 rfl zz2) rfl sk0 ?_
       refine wpd_p 20 rfl zz6 ⟨_, rfl, rfl⟩ (q_pure rfl) rfl sk0 ?_
       refine wpd_p 21 rfl zz6 ⟨_, rfl, rfl⟩ (q_pure rfl) rfl sk0 ?_
       refine wpd_p 22 rfl zz6 trivial (q_pure rfl) rfl sk0 ?_
       refine wpd_done zz6 ?_
       refine ex_then ?_
       refine wpc_cond rfl (fun hc33 => ?_) (fun hc33 => ?_)
       ·
        try simp only [decide_eq_true_eq, decide_eq_false_iff_not, Bool.and_eq_true, Bool.or_eq_true, beq_iff_eq, bne_iff_ne, ne_eq, Bool.not_eq_true', Bool.not_eq_false', Decidable.not_not] at hc33
        refine wpc_seq <| wpc_region <| wpl_q (q_pure rfl) rfl <| wpl_nil <| ex_then <| wpc_ret ?_
        refine ex_then_ret ?_
        refine ret1 (.inl rfl) rfl rfl ?_
        exact fun w h => ⟨zz24, h.below⟩
       ·
        simp only [bne_eq_false_iff_eq, decide_eq_false_iff_not, ne_eq, Decidable.not_not] at hc33 hb27
        refine wpc_skip <| ex_then <| wpc_seq <| wpc_region <| wpl_q (q_pure rfl) rfl <| wpl_nil <| ex_then <| wpc_ret ?_
        refine ret1 (.inl rfl) rfl rfl ?_
        exact fun w h => ⟨by rw [check_0 zz11 zz11], h.below⟩
theorem signed10 (ix : Int) (cv pv : Value) (chs ps : List (List UInt8)) (w : World) (hcv : SV cv chs.length) (hpv : SV pv ps.length)  :
    Calls Try.prog 67 [.agg #[.int .i64 ix, cv, pv]].toArray w (Pur w (.bool (sigB ix chs.length ps.length))) := by
  haveI : OneC [.int .i64 ix, cv, pv] := OneC.cons rfl (OneC.cons (SV.one hcv) (OneC.cons (SV.one hpv) oneC_nil))
  have lcv := hcv.le
  have lpv := hpv.le
  simp only [maxLen] at lcv lpv
  refine enter (m := 18) (R := Mem w [] [] []) Try.func67 rfl rfl (Nat.le_of_ble_eq_true rfl) (Mem.start w) ?_
  refine wpc_seq <| wpc_region ?_
  refine wpl_t (t_box rfl [.int .i64 ix, cv, pv] rfl) rfl (fun b1 => ?_)
  refine wpl_q (q_pure rfl) rfl <| wpl_nil <| ex_then <| wpc_seq <| wpc_region <| wpl_q (q_field Try.underlying28 rfl Try.ti3 rfl rfl _ rfl) rfl ?_
  refine wpl_q (q_ld Try.underlying3 rfl rfl zz23) rfl ?_
  refine wpl_q (q_pure rfl) rfl <| wpl_q (q_pure rfl) rfl ?_
  refine wpl_bool2 6 5 rfl rfl (fun hb6 => ?_) (fun hb6 => ?_)
  ·
   try simp only [decide_eq_true_eq, decide_eq_false_iff_not, Bool.and_eq_true, Bool.or_eq_true, beq_iff_eq, bne_iff_ne, ne_eq, Bool.not_eq_true', Bool.not_eq_false', Decidable.not_not] at hb6
   refine wpl_off rfl rfl rfl rfl <| wpl_off rfl rfl rfl rfl <| wpl_off rfl rfl rfl rfl <| wpl_off rfl rfl rfl rfl <| wpl_q (q_pure rfl) rfl <| wpl_q (q_pure rfl) rfl <| wpl_off rfl rfl rfl rfl <| wpl_off rfl rfl rfl rfl <| wpl_off rfl rfl rfl rfl <| wpl_off rfl rfl rfl rfl <| wpl_q (q_pure rfl) rfl <| wpl_q (q_pure rfl) rfl ?_
   refine wpl_nil <| ex_then <| wpc_ret ?_
   refine ret1 (.inl rfl) rfl rfl ?_
   exact fun w h => ⟨congrArg (fun b => Ending.returned (Value.bool b)) (by
     (try simp only [bne_iff_ne, ne_eq, bne_eq_false_iff_eq, decide_eq_true_eq, decide_eq_false_iff_not, gt_iff_lt] at *)
     first
     | exact (show sigB ix chs.length ps.length = true from zz36).symm
     | (rw [Bool.eq_iff_iff]; simp only [sigB, Bool.or_eq_true, decide_eq_true_eq]; omega)), h.below⟩
  ·
   try simp only [decide_eq_true_eq, decide_eq_false_iff_not, Bool.and_eq_true, Bool.or_eq_true, beq_iff_eq, bne_iff_ne, ne_eq, Bool.not_eq_true', Bool.not_eq_false', Decidable.not_not] at hb6
   refine wpl_on rfl rfl <| wpl_q (q_field Try.underlying28 rfl Try.ti26 rfl rfl _ rfl) rfl <| wpl_on rfl rfl <| wpl_q (q_ld Try.underlying26 rfl rfl rfl) rfl <| wpl_on rfl rfl ?_
   refine wpl_q (q_lenW Try.underlying26 rfl zz2) rfl ?_
   refine wpl_on rfl rfl <| wpl_q (q_pure rfl) rfl <| wpl_q (q_pure rfl) rfl <| wpl_q (q_pure rfl) rfl ?_
   refine wpl_bool2 12 10 rfl rfl (fun hb12 => ?_) (fun hb12 => ?_)
   ·
    try simp only [decide_eq_true_eq, decide_eq_false_iff_not, Bool.and_eq_true, Bool.or_eq_true, beq_iff_eq, bne_iff_ne, ne_eq, Bool.not_eq_true', Bool.not_eq_false', Decidable.not_not] at hb12
    refine wpl_off rfl rfl rfl rfl <| wpl_off rfl rfl rfl rfl <| wpl_off rfl rfl rfl rfl <| wpl_off rfl rfl rfl rfl <| wpl_q (q_pure rfl) rfl <| wpl_q (q_pure rfl) rfl <| wpl_nil <| ex_then <| wpc_ret ?_
    refine ret1 (.inl rfl) rfl rfl ?_
    exact fun w h => ⟨congrArg (fun b => Ending.returned (Value.bool b)) (by
      (try simp only [bne_iff_ne, ne_eq, bne_eq_false_iff_eq, decide_eq_true_eq, decide_eq_false_iff_not, gt_iff_lt] at *)
      first
      | exact (show sigB ix chs.length ps.length = true from zz36).symm
      | (rw [Bool.eq_iff_iff]; simp only [sigB, Bool.or_eq_true, decide_eq_true_eq]; omega)), h.below⟩
   ·
    try simp only [decide_eq_true_eq, decide_eq_false_iff_not, Bool.and_eq_true, Bool.or_eq_true, beq_iff_eq, bne_iff_ne, ne_eq, Bool.not_eq_true', Bool.not_eq_false', Decidable.not_not] at hb12
    refine wpl_on rfl rfl <| wpl_q (q_field Try.underlying28 rfl Try.ti26 rfl rfl _ rfl) rfl <| wpl_on rfl rfl <| wpl_q (q_ld Try.underlying26 rfl rfl rfl) rfl <| wpl_on rfl rfl ?_
    refine wpl_q (q_lenW Try.underlying26 rfl zz2) rfl ?_
    refine wpl_on rfl rfl <| wpl_q (q_pure rfl) rfl <| wpl_q (q_pure rfl) rfl <| wpl_q (q_pure rfl) rfl <| wpl_nil <| ex_then <| wpc_ret ?_
    refine ret1 (.inl rfl) rfl rfl ?_
    exact fun w h => ⟨congrArg (fun b => Ending.returned (Value.bool b)) (by
      (try simp only [bne_iff_ne, ne_eq, bne_eq_false_iff_eq, decide_eq_true_eq, decide_eq_false_iff_not, gt_iff_lt] at *)
      first
      | exact (show sigB ix chs.length ps.length = true from zz36).symm
      | (rw [Bool.eq_iff_iff]; simp only [sigB, Bool.or_eq_true, decide_eq_true_eq]; omega)), h.below⟩
theorem goodSig (ix : Int) (cv pv : Value) (chs ps : List (List UInt8)) (w : World) (hcv : SV cv chs.length) (hpv : SV pv ps.length)  :
    Calls Try.prog 35 [.agg #[.int .i64 ix, cv, pv]].toArray w (Pur w (.bool (gsigB ix chs.length ps.length))) := by
  haveI : OneC [.int .i64 ix, cv, pv] := OneC.cons rfl (OneC.cons (SV.one hcv) (OneC.cons (SV.one hpv) oneC_nil))
  have lcv := hcv.le
  have lpv := hpv.le
  simp only [maxLen] at lcv lpv
  refine enter (m := 14) (R := Mem w [] [] []) Try.func35 rfl rfl (Nat.le_of_ble_eq_true rfl) (Mem.start w) ?_
  refine wpc_seq <| wpc_region ?_
  refine wpl_t (t_box rfl [.int .i64 ix, cv, pv] rfl) rfl (fun b1 => ?_)
  refine wpl_q (q_pure rfl) rfl <| wpl_nil <| ex_then <| wpc_seq <| wpc_region <| wpl_q (q_ldN Try.underlying28 rfl Try.ti28 rfl LenC.h) rfl ?_
  refine wpl_t (t_pur Try.hb67 rfl fun w h => signed10 ix cv pv chs ps w hcv hpv) rfl (fun b4 => ?_)
  refine wpl_q (q_pure rfl) rfl <| wpl_q (q_pure rfl) rfl ?_
  refine wpl_bool2 6 5 rfl rfl (fun hb6 => ?_) (fun hb6 => ?_)
  ·
   try simp only [decide_eq_true_eq, decide_eq_false_iff_not, Bool.and_eq_true, Bool.or_eq_true, beq_iff_eq, bne_iff_ne, ne_eq, Bool.not_eq_true', Bool.not_eq_false', Decidable.not_not] at hb6
   refine wpl_off rfl rfl rfl rfl <| wpl_off rfl rfl rfl rfl <| wpl_off rfl rfl rfl rfl <| wpl_off rfl rfl rfl rfl <| wpl_off rfl rfl rfl rfl <| wpl_off rfl rfl rfl rfl <| wpl_q (q_pure rfl) rfl <| wpl_q (q_pure rfl) rfl <| wpl_nil <| ex_then <| wpc_ret ?_
   refine ret1 (.inl rfl) rfl rfl ?_
   exact fun w h => ⟨congrArg (fun b => Ending.returned (Value.bool b)) (by unfold gsigB; first | (rw [hb6]; rfl) | (rw [hb6]; done) | (simp at hb6; rw [hb6]; simp; done) | (simp at hb6; rw [hb6]; rfl) | simp_all), h.below⟩
  ·
   try simp only [decide_eq_true_eq, decide_eq_false_iff_not, Bool.and_eq_true, Bool.or_eq_true, beq_iff_eq, bne_iff_ne, ne_eq, Bool.not_eq_true', Bool.not_eq_false', Decidable.not_not] at hb6
   refine wpl_on rfl rfl <| wpl_q (q_field Try.underlying28 rfl Try.ti26 rfl rfl _ rfl) rfl <| wpl_on rfl rfl <| wpl_q (q_ld Try.underlying26 rfl rfl rfl) rfl <| wpl_on rfl rfl ?_
   refine wpl_q (q_lenW Try.underlying26 rfl zz2) rfl ?_
   refine wpl_on rfl rfl <| wpl_q (q_ldN Try.underlying28 rfl Try.ti28 rfl LenC.h) rfl <| wpl_on rfl rfl ?_
   refine wpl_t (t_pur Try.hb68 rfl fun w h => refCheck7 ((ps.length : Nat) : Int) ix cv pv chs ps w hcv hpv) rfl (fun b11 => ?_)
   refine wpl_on rfl rfl <| wpl_q (q_pure rfl) rfl <| wpl_q (q_pure rfl) rfl <| wpl_q (q_pure rfl) rfl <| wpl_nil <| ex_then <| wpc_ret ?_
   refine ret1 (.inl rfl) rfl rfl ?_
   exact fun w h => ⟨congrArg (fun b => Ending.returned (Value.bool b)) (by unfold gsigB; first | (rw [hb6]; rfl) | (rw [hb6]; done) | (simp at hb6; rw [hb6]; simp; done) | (simp at hb6; rw [hb6]; rfl) | simp_all), h.below⟩
end Go.Proofs.Ytgnablliekgbgaa
