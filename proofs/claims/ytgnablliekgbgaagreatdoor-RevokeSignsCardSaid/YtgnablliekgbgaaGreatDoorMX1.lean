/- What the statement reaches, in order. -/
import Derived.Test.YtgnablliekgbgaaGreatDoorMXPLN
import Derived.Test.YtgnablliekgbgaaGreatDoorMXPLL
import Derived.Test.YtgnablliekgbgaaGreatDoorMXTI
import Derived.Lib.BufferRead
import Derived.Lib.ConvBytes
import Derived.Laws.IdiomStrings
import Derived.Test.YtgnablliekgbgaaGreatDoorMXPLH
import Derived.Test.YtgnablliekgbgaaGreatDoorMXPLI
import Derived.Test.YtgnablliekgbgaaGreatDoorMXPLZ
import Derived.WalkKit
import Derived.ProofKit
import Derived.OpenShut
import Derived.ChangeOld
import Derived.Below
import Derived.Carry
import Derived.LaidMore
import Derived.Deep.DeepHandedRow
import Derived.Deep.DeepWitnessRowRef
import Derived.Lib.LaidTab
import Derived.Stop.Joined
set_option linter.unusedSimpArgs false
set_option linter.unusedVariables false
set_option maxRecDepth 100000
namespace Go.Proofs.YtgnablliekgbgaaGreatDoor
open Go Go.PL Go.RowKit
def sgChk (ht idx : Int) (nc np : Nat) : Int := if 0 ≤ ht ∧ ht ≤ 4 then (if 0 ≤ idx ∧ idx < ((2 ^ ht.toNat : Nat) : Int) ∧ nc = 35 ∧ (np : Int) = ht then 0 else 12) else 2
theorem check_2 {ht idx : Int} {nc np : Nat} (h : ¬ (0 ≤ ht ∧ ht ≤ 4)) : sgChk ht idx nc np = 2 := if_neg h
theorem check_in {m : Nat} {idx : Int} {nc np : Nat} (h : (m : Int) ≤ 4) : sgChk m idx nc np = if 0 ≤ idx ∧ idx < ((2 ^ m : Nat) : Int) ∧ nc = 35 ∧ np = m then 0 else 12 := by
  unfold sgChk
  rw [if_pos ⟨Int.natCast_nonneg m, h⟩, Int.toNat_natCast]
  simp only [Int.ofNat_inj]
theorem check_12 {m : Nat} {idx : Int} {nc np : Nat} (h : (m : Int) ≤ 4) (hn : ¬ (0 ≤ idx ∧ idx < ((2 ^ m : Nat) : Int) ∧ nc = 35 ∧ np = m)) : sgChk m idx nc np = 12 := (check_in h).trans (if_neg hn)
theorem check_0 {m : Nat} {idx : Int} {nc np : Nat} (h : (m : Int) ≤ 4) (hn : 0 ≤ idx ∧ idx < ((2 ^ m : Nat) : Int) ∧ nc = 35 ∧ np = m) : sgChk m idx nc np = 0 := (check_in h).trans (if_pos hn)
theorem pow_le16 {m : Nat} (h : m ≤ 4) : 2 ^ m ≤ 16 := Nat.le_trans (Nat.pow_le_pow_right zz22 h) zz22
structure Rv where
  nm : List UInt8
  no : UInt64
  fr : Int
  tt : Int
  sv : Value
  ss : List UInt64
  ix : Int
  cv : Value
  chs : List (List UInt8)
  pv : Value
  ps : List (List UInt8)
def Rv.c (l : Rv) : List Value := [str l.nm, .int .u64 (l.no.toNat : Int), .int .i64 l.fr, .int .i64 l.tt, l.sv, .int .i64 l.ix, l.cv, l.pv]
def Rv.z : Rv := ⟨[], 0, 0, 0, .slice none 0 0, [], 0, .slice none 0 0, [], .slice none 0 0, []⟩
def Rv.win (l : Rv) : List Value := [.int .i64 l.fr, .int .i64 l.tt]
def Rv.sig (l : Rv) : List Value := [.int .i64 l.ix, l.cv, l.pv]
instance lenC_rv {l : Rv} : LenC l.c 8 := ⟨rfl⟩
def Rv.svs (l : Rv) : Prop := SV l.sv l.ss.length ∧ SV l.cv l.chs.length ∧ SV l.pv l.ps.length
theorem Rv.svs.one {l : Rv} (h : l.svs) : OneC l.c := OneC.cons rfl (OneC.cons rfl (OneC.cons rfl (OneC.cons rfl (OneC.cons (SV.one h.1) (OneC.cons rfl (OneC.cons (SV.one h.2.1) (OneC.cons (SV.one h.2.2) oneC_nil)))))))
structure Rv.seen (r : Rd) (l : Rv) : Prop where
  s : Seen r l.sv l.ss.length 1 (v64s l.ss)
  c : Seen r l.cv l.chs.length 16 (v8s l.chs.flatten)
  lc : ∀ x ∈ l.chs, x.length = 16
  p : Seen r l.pv l.ps.length 16 (v8s l.ps.flatten)
  lp : ∀ x ∈ l.ps, x.length = 16
theorem Rv.seen.svs {r : Rd} {l : Rv} (h : l.seen r) : l.svs := ⟨h.s.sv, h.c.sv, h.p.sv⟩
theorem Rv.seen.old {l : Rv} {w0 w : World} {Ln : List Nat} {M : List Ent} {S : List Fact} (hs : l.seen w0.cell?) (h : Mem w0 Ln M S w) (hn : Ln = []) : l.seen w.cell? := by
  subst hn
  exact ⟨h.seen_old hs.s, h.seen_old hs.c, hs.lc, h.seen_old hs.p, hs.lp⟩
def goodB (c : UInt8) : Bool := (decide (97 ≤ c.toNat) && decide (c.toNat ≤ 122)) || (decide (65 ≤ c.toNat) && decide (c.toNat ≤ 90)) || (decide (48 ≤ c.toNat) && decide (c.toNat ≤ 57)) || decide (c.toNat = 45) || decide (c.toNat = 95)
def nameF (xs : List UInt8) : Bool := decide (1 ≤ xs.length) && decide (xs.length ≤ 40) && xs.all goodB
def timeF (t : Int) : Bool := decide (0 ≤ t) && decide (t ≤ 1099511627776)
def winF (a b : Int) : Bool := timeF a && timeF b && decide (a ≤ b)
def sigB (ix : Int) (nc np : Nat) : Bool := decide (ix ≠ 0) || decide (0 < nc) || decide (0 < np)
def gsigB (ix : Int) (nc np : Nat) : Bool := !sigB ix nc np || decide (sgChk (np : Int) ix nc np = 0)
def incF (ss : List UInt64) (n : Nat) : Prop := ∀ i, i < n → (if i = 0 then 0 else ss.getD (i - 1) 0) < ss.getD i 0
instance {ss : List UInt64} {n : Nat} : Decidable (incF ss n) := by unfold incF; exact inferInstance
def okA (l : Rv) : Bool := nameF l.nm && winF l.fr l.tt && gsigB l.ix l.chs.length l.ps.length
def okR (l : Rv) : Bool := okA l && decide (incF l.ss l.ss.length)
def chkR (l : Rv) : Int := if 500 < l.ss.length then 4 else if okR l then 0 else 8
def lastN (ss : List UInt64) (n : Nat) : UInt64 := if n = 0 then 0 else ss.getD (n - 1) 0
theorem incF_0 (ss : List UInt64) : incF ss 0 := fun i hi => absurd hi (Nat.not_lt_zero _)
theorem incF_S {ss : List UInt64} {n : Nat} : incF ss (n + 1) ↔ incF ss n ∧ lastN ss n < ss.getD n 0 := by
  constructor
  · intro h; exact ⟨fun i hi => h i zz16, h n (Nat.lt_succ_self _)⟩
  · rintro ⟨h1, h2⟩ i hi
    rcases Nat.lt_or_ge i n with h3 | h3
    · exact h1 i h3
    · obtain rfl : i = n := by omega
      exact h2
theorem incF_no {ss : List UInt64} {n m : Nat} (h : ¬ incF ss n) (hn : n ≤ m) : ¬ incF ss m := fun k => h fun i hi => k i zz16
theorem chk_4 {l : Rv} (h : 500 < l.ss.length) : chkR l = 4 := if_pos h
theorem chk_8 {l : Rv} (h : ¬ 500 < l.ss.length) (k : okR l = false) : chkR l = 8 := (if_neg h).trans (if_neg (by simp [k]))
theorem chk_ok {l : Rv} (h : ¬ 500 < l.ss.length) (k : okR l = true) : chkR l = 0 := (if_neg h).trans (if_pos k)
theorem okR_A {l : Rv} (k : okA l = false) : okR l = false := by unfold okR; rw [k]; rfl
theorem okR_I {l : Rv} (k : ¬ incF l.ss l.ss.length) : okR l = false := by unfold okR; rw [decide_eq_false k, Bool.and_false]
theorem okR_ok {l : Rv} (k : okA l = true) (k2 : incF l.ss l.ss.length) : okR l = true := by unfold okR; rw [k, decide_eq_true k2]; rfl
theorem chk_inv {l : Rv} (h : chkR l = 0) : ¬ 500 < l.ss.length ∧ incF l.ss l.ss.length := by
  unfold chkR at h
  split at h
  · cases h
  · rename_i h1
    split at h
    · rename_i h2
      unfold okR at h2
      rw [Bool.and_eq_true, decide_eq_true_eq] at h2
      exact ⟨h1, h2.2⟩
    · cases h
def Rv.eqv (a b : Rv) : Prop := a.nm = b.nm ∧ a.no = b.no ∧ (a.fr = b.fr ∧ a.tt = b.tt) ∧ a.ss = b.ss ∧ (a.ix = b.ix ∧ a.chs = b.chs ∧ a.ps = b.ps)
instance {a b : Rv} : Decidable (a.eqv b) := by unfold Rv.eqv; exact inferInstance
def bigR (l : Rv) : Bool := decide (500 < l.nm.length) || decide (520 < l.ss.length) || (decide (60 < l.chs.length) || decide (60 < l.ps.length))
end Go.Proofs.YtgnablliekgbgaaGreatDoor
namespace Go.Proofs.YtgnablliekgbgaaGreatDoor
open Go Go.PL Go.RowKit
section
variable {H : Type} {enc : TypeId × Value → H} {w : World} {base : Nat} {sp : Nat → Bool} {held : Bool}
abbrev VL := Value × List (List UInt8)
theorem opensSig : Opens enc Tryz.prog w base sp held 28 (fun (a : Int × VL × VL) c _ => c = [.int .i64 a.1, a.2.1.1, a.2.2.1] ∧ (Seen w.cell? a.2.1.1 a.2.1.2.length 16 (v8s a.2.1.2.flatten) ∧ ∀ x ∈ a.2.1.2, x.length = 16) ∧ Seen w.cell? a.2.2.1 a.2.2.2.length 16 (v8s a.2.2.2.flatten) ∧ ∀ x ∈ a.2.2.2, x.length = 16) := by
  intro n c y h
  obtain ⟨⟨i, p, q, _⟩, x0, y0, d0, e0, h0, x1, y1, d1, e1, h1, x2, y2, d2, e2, h2, h3⟩ := opens_struct Tryz.underlying28 (fin := 3) zz8 (OpensFs.cons (s := 1) rfl zz8 (opens_i64 Tryz.underlying3) (OpensFs.cons (s := 1) rfl zz8 (opens_arrs Tryz.underlying26 Tryz.underlying32 Tryz.underlying5 zz8 zz8) (OpensFs.cons (s := 1) rfl zz8 (opens_arrs Tryz.underlying26 Tryz.underlying32 Tryz.underlying5 zz8 zz8) (OpensFs.nil _)))) n c y h
  dsimp only at h0 h1 h2 h3
  refine ⟨(i, p, q), ?_, ⟨h1.2.1, h1.2.2⟩, h2.2.1, h2.2.2⟩
  rw [e0, e1, e2, h0.1, h1.1, h2.1, h3]; rfl
theorem opensWin : Opens enc Tryz.prog w base sp held 24 (fun (a : Int × Int) c _ => c = [.int .i64 a.1, .int .i64 a.2]) := by
  intro n c y h
  obtain ⟨⟨a, b, _⟩, x0, y0, d0, e0, h0, x1, y1, d1, e1, h1, h2⟩ := opens_struct Tryz.underlying24 (fin := 2) zz8 (OpensFs.cons (s := 1) rfl zz8 (opens_i64 Tryz.underlying2) (OpensFs.cons (s := 1) rfl zz8 (opens_i64 Tryz.underlying2) (OpensFs.nil _))) n c y h
  dsimp only at h0 h1 h2
  refine ⟨(a, b), ?_⟩
  rw [e0, e1, h0.1, h1.1, h2]; rfl
theorem opensRv : Opens enc Tryz.prog w base sp held 30 (fun (a : Rv) c _ => c = a.c ∧ a.seen w.cell? ∧ a.nm.length ≤ maxLen) := by
  intro n c y h
  obtain ⟨⟨nm, no, ⟨f, t⟩, ⟨v, ss⟩, ⟨i, p, q⟩, _⟩, x0, y0, d0, e0, h0, x1, y1, d1, e1, h1, x2, y2, d2, e2, h2, x3, y3, d3, e3, h3, x4, y4, d4, e4, h4, h5⟩ := opens_struct Tryz.underlying30 (fin := 8) zz8 (OpensFs.cons (s := 1) rfl zz8 (opens_str Tryz.underlying9) (OpensFs.cons (s := 1) rfl zz8 (opens_u64 Tryz.underlying22) (OpensFs.cons (s := 2) rfl zz8 opensWin (OpensFs.cons (s := 1) rfl zz8 (opens_nums Tryz.underlying25 zz8 (opens_u64 Tryz.underlying22)) (OpensFs.cons (s := 3) rfl zz8 opensSig (OpensFs.nil _)))))) n c y h
  dsimp only at h0 h1 h2 h3 h4 h5
  refine ⟨⟨nm, no, f, t, v, ss, i, p.1, p.2, q.1, q.2⟩, ?_, ⟨h3.2.1, h4.2.1.1, h4.2.1.2, h4.2.2.1, h4.2.2.2⟩, h0.2.1⟩
  rw [e0, e1, e2, e3, e4, h0.1, h1, h2, h3.1, h4.1, h5]; rfl
end
end Go.Proofs.YtgnablliekgbgaaGreatDoor
namespace Go.Proofs.YtgnablliekgbgaaGreatDoor
open Go Go.PL Go.RowKit
theorem e45 (c : UInt8) : (c = 45) ↔ c.toNat = 45 := by rw [← UInt8.toNat_inj]; rfl
theorem e95 (c : UInt8) : (c = 95) ↔ c.toNat = 95 := by rw [← UInt8.toNat_inj]; rfl
theorem goodB_iff (c : UInt8) : goodB c = true ↔ ((97 ≤ c.toNat ∧ c.toNat ≤ 122) ∨ (65 ≤ c.toNat ∧ c.toNat ≤ 90) ∨ (48 ≤ c.toNat ∧ c.toNat ≤ 57) ∨ c.toNat = 45 ∨ c.toNat = 95) := by
  unfold goodB
  simp only [Bool.or_eq_true, Bool.and_eq_true, decide_eq_true_eq]
  omega
theorem name_bad {xs : List UInt8} {i : Nat} (h : i < xs.length) (hg : goodB (xs.getD i 0) = false) : nameF xs = false := by
  have : xs.all goodB = false := by
    rw [List.all_eq_false]
    refine ⟨xs[i], List.getElem_mem h, ?_⟩
    rw [List.getD_eq_getElem?_getD, List.getElem?_eq_getElem h] at hg
    simpa using hg
  unfold nameF; rw [this, Bool.and_false]
theorem name_all {xs : List UInt8} (h : ∀ j, j < xs.length → goodB (xs.getD j 0) = true) : nameF xs = (decide (1 ≤ xs.length) && decide (xs.length ≤ 40)) := by
  have : xs.all goodB = true := by
    rw [List.all_eq_true]
    intro x hx
    obtain ⟨j, hj, rfl⟩ := List.mem_iff_getElem.1 hx
    have := h j hj
    rwa [List.getD_eq_getElem?_getD, List.getElem?_eq_getElem hj] at this
  unfold nameF; rw [this, Bool.and_true]
theorem name_len {xs : List UInt8} (h : xs.length = 0 ∨ 40 < xs.length) : nameF xs = false := by
  unfold nameF
  rcases h with h | h
  · rw [decide_eq_false (show ¬ 1 ≤ xs.length from zz16)]; rfl
  · rw [decide_eq_false (show ¬ xs.length ≤ 40 from zz16), Bool.and_false]; rfl
theorem good (ht : Int) (w : World)   :
    Calls Tryz.prog 30 [.int .i64 ht].toArray w (Pur w (.bool (decide (0 ≤ ht ∧ ht ≤ 4)))) := by
  refine enter (m := 9) (R := Mem w [] [] []) Tryz.func30 rfl rfl (Nat.le_of_ble_eq_true rfl) (Mem.start w) ?_
  refine wpc_seq <| wpc_region <| wpl_q (q_pure rfl) rfl <| wpl_nil <| ex_then <| wpc_seq <| wpc_region <| wpl_q (q_pure rfl) rfl <| wpl_q (q_pure rfl) rfl <| wpl_q (q_pure rfl) rfl ?_
  refine wpl_bool2 5 4 rfl rfl (fun hb5 => ?_) (fun hb5 => ?_)
  ·
   try simp only [decide_eq_true_eq, decide_eq_false_iff_not, Bool.and_eq_true, Bool.or_eq_true, beq_iff_eq, bne_iff_ne, ne_eq, Bool.not_eq_true', Bool.not_eq_false', Decidable.not_not] at hb5
   refine wpl_on rfl rfl <| wpl_q (q_pure rfl) rfl <| wpl_on rfl rfl <| wpl_q (q_pure rfl) rfl <| wpl_q (q_pure rfl) rfl <| wpl_q (q_pure rfl) rfl <| wpl_nil <| ex_then <| wpc_ret ?_
   refine ret1 (.inl rfl) rfl rfl ?_
   exact fun w h => ⟨by simp; omega, h.below⟩
  ·
   try simp only [decide_eq_true_eq, decide_eq_false_iff_not, Bool.and_eq_true, Bool.or_eq_true, beq_iff_eq, bne_iff_ne, ne_eq, Bool.not_eq_true', Bool.not_eq_false', Decidable.not_not] at hb5
   refine wpl_off rfl rfl rfl rfl <| wpl_off rfl rfl rfl rfl <| wpl_q (q_pure rfl) rfl <| wpl_q (q_pure rfl) rfl <| wpl_nil <| ex_then <| wpc_ret ?_
   refine ret1 (.inl rfl) rfl rfl ?_
   exact fun w h => ⟨by simp; omega, h.below⟩
theorem check7 (ht : Int) (ix : Int) (cv pv : Value) (chs ps : List (List UInt8)) (w : World) (hcv : SV cv chs.length) (hpv : SV pv ps.length)  :
    Calls Tryz.prog 50 [.int .i64 ht, .agg #[.int .i64 ix, cv, pv]].toArray w (Pur w (.int .i64 (sgChk ht ix chs.length ps.length))) := by
  haveI : OneC [.int .i64 ix, cv, pv] := OneC.cons rfl (OneC.cons (SV.one hcv) (OneC.cons (SV.one hpv) oneC_nil))
  have lcv := hcv.le
  have lpv := hpv.le
  simp only [maxLen] at lcv lpv
  refine enter (m := 31) (R := Mem w [] [] []) Tryz.func50 rfl rfl (Nat.le_of_ble_eq_true rfl) (Mem.start w) ?_
  refine wpc_seq <| wpc_region ?_
  refine wpl_t (t_box rfl [.int .i64 ix, cv, pv] rfl) rfl (fun b3 => ?_)
  refine wpl_q (q_pure rfl) rfl <| wpl_nil <| ex_then <| wpc_seq <| wpc_seq <| wpc_region <| wpl_q (q_pure rfl) rfl ?_
  refine wpl_t (t_pur Tryz.hb30 rfl fun w h => good _ w) rfl (fun b6 => ?_)
  refine wpl_q (q_pure rfl) rfl <| wpl_nil <| ex_then ?_
  refine wpc_cond rfl (fun hc7 => ?_) (fun hc7 => ?_)
  ·
   try simp only [decide_eq_true_eq, decide_eq_false_iff_not, Bool.and_eq_true, Bool.or_eq_true, beq_iff_eq, bne_iff_ne, ne_eq, Bool.not_eq_true', Bool.not_eq_false', Decidable.not_not] at hc7
   refine wpc_seq <| wpc_region <| wpl_q (q_pure rfl) rfl <| wpl_nil <| ex_then <| wpc_ret ?_
   refine ex_then_ret ?_
   refine ret1 (.inl rfl) rfl rfl ?_
   exact fun w h => ⟨by rw [check_2 hc7], h.below⟩
  ·
   simp only [Bool.not_eq_false', decide_eq_true_eq] at hc7
   obtain ⟨m, rfl⟩ : ∃ m : Nat, ht = (m : Int) := ⟨ht.toNat, zz16⟩
   have hpw := pow_le16 (m := m) zz16
   refine wpc_skip <| ex_then <| wpc_seq <| wpc_seq ?_
   refine wpc_draw 23 zz8 (fun _ h => h.drew) ?_
   refine wpd_p 0 rfl zz8 trivial (q_field Tryz.underlying28 rfl Tryz.ti3 rfl rfl _ rfl) rfl sk0 ?_
   refine wpd_q 1 rfl zz8 trivial (q_ld Tryz.underlying3 rfl rfl zz27) rfl (fun _ h => h) ?_
   refine wpd_p 2 rfl zz8 trivial (q_pure rfl) rfl sk0 ?_
   refine wpd_p 3 rfl zz8 trivial (q_pure rfl) rfl sk0 ?_
   refine wpd_bool2 11 10 rfl rfl (fun hb11 => ?_) (fun hb11 => ?_)
   ·
    try simp only [decide_eq_true_eq, decide_eq_false_iff_not, Bool.and_eq_true, Bool.or_eq_true, beq_iff_eq, bne_iff_ne, ne_eq, Bool.not_eq_true', Bool.not_eq_false', Decidable.not_not] at hb11
    refine wpd_off 4 rfl zz8 ⟨_, _, rfl, rfl, rfl⟩ rfl sk0 ?_
    refine wpd_off 5 rfl zz8 ⟨_, _, rfl, rfl, rfl⟩ rfl sk0 ?_
    refine wpd_off 6 rfl zz8 ⟨_, _, rfl, rfl, rfl⟩ rfl sk0 ?_
    refine wpd_off 7 rfl zz8 ⟨_, _, rfl, rfl, rfl⟩ rfl sk0 ?_
    refine wpd_off 8 rfl zz8 ⟨_, _, rfl, rfl, rfl⟩ rfl sk0 ?_
    refine wpd_p 9 rfl zz8 trivial (q_pure rfl) rfl sk0 ?_
    refine wpd_p 10 rfl zz8 trivial (q_pure rfl) rfl sk0 ?_
    refine wpd_off 11 rfl zz8 ⟨_, _, rfl, rfl, rfl⟩ rfl sk0 ?_
    refine wpd_off 12 rfl zz8 ⟨_, _, rfl, rfl, rfl⟩ rfl sk0 ?_
    refine wpd_off 13 rfl zz8 ⟨_, _, rfl, rfl, rfl⟩ rfl sk0 ?_
    refine wpd_off 14 rfl zz8 ⟨_, _, rfl, rfl, rfl⟩ rfl sk0 ?_
    refine wpd_p 15 rfl zz8 trivial (q_pure rfl) rfl sk0 ?_
    refine wpd_p 16 rfl zz8 trivial (q_pure rfl) rfl sk0 ?_
    refine wpd_off 17 rfl zz8 ⟨_, _, rfl, rfl, rfl⟩ rfl sk0 ?_
    refine wpd_off 18 rfl zz8 ⟨_, _, rfl, rfl, rfl⟩ rfl sk0 ?_
    refine wpd_off 19 rfl zz8 ⟨_, _, rfl, rfl, rfl⟩ rfl sk0 ?_
    refine wpd_off 20 rfl zz8 ⟨_, _, rfl, rfl, rfl⟩ rfl sk0 ?_
    refine wpd_off 21 rfl zz8 ⟨_, _, rfl, rfl, rfl⟩ rfl sk0 ?_
    refine wpd_p 22 rfl zz8 trivial (q_pure rfl) rfl sk0 ?_
    refine wpd_done zz8 ?_
    refine ex_then ?_
    refine wpc_cond_t rfl ?_
    refine wpc_seq <| wpc_region <| wpl_q (q_pure rfl) rfl <| wpl_nil <| ex_then <| wpc_ret ?_
    refine ex_then_ret ?_
    refine ret1 (.inl rfl) rfl rfl ?_
    exact fun w h => ⟨by rw [check_12 zz16 zz28], h.below⟩
   ·
    try simp only [decide_eq_true_eq, decide_eq_false_iff_not, Bool.and_eq_true, Bool.or_eq_true, beq_iff_eq, bne_iff_ne, ne_eq, Bool.not_eq_true', Bool.not_eq_false', Decidable.not_not] at hb11
    refine wpd_p 4 rfl zz8 ⟨_, rfl, rfl⟩ (q_field Tryz.underlying28 rfl Tryz.ti3 rfl rfl _ rfl) rfl sk0 ?_
    refine wpd_q 5 rfl zz8 ⟨_, rfl, rfl⟩ (q_ld Tryz.underlying3 rfl rfl zz27) rfl (fun _ h => h) ?_
    refine wpd_p 6 rfl zz8 ⟨_, rfl, rfl⟩ (q_pure rfl) rfl sk0 ?_
    refine wpd_p 7 rfl zz8 ⟨_, rfl, rfl⟩ (q_shlN (a := 1) rfl rfl zz26 zz1) rfl sk0 ?_
    refine wpd_p 8 rfl zz8 ⟨_, rfl, rfl⟩ (q_pure rfl) rfl sk0 ?_
    refine wpd_p 9 rfl zz8 trivial (q_pure rfl) rfl sk0 ?_
    refine wpd_p 10 rfl zz8 trivial (q_pure rfl) rfl sk0 ?_
    refine wpd_bool2 18 16 rfl rfl (fun hb18 => ?_) (fun hb18 => ?_)
    ·
     try simp only [decide_eq_true_eq, decide_eq_false_iff_not, Bool.and_eq_true, Bool.or_eq_true, beq_iff_eq, bne_iff_ne, ne_eq, Bool.not_eq_true', Bool.not_eq_false', Decidable.not_not] at hb18
     refine wpd_off 11 rfl zz8 ⟨_, _, rfl, rfl, rfl⟩ rfl sk0 ?_
     refine wpd_off 12 rfl zz8 ⟨_, _, rfl, rfl, rfl⟩ rfl sk0 ?_
     refine wpd_off 13 rfl zz8 ⟨_, _, rfl, rfl, rfl⟩ rfl sk0 ?_
     refine wpd_off 14 rfl zz8 ⟨_, _, rfl, rfl, rfl⟩ rfl sk0 ?_
     refine wpd_p 15 rfl zz8 trivial (q_pure rfl) rfl sk0 ?_
     refine wpd_p 16 rfl zz8 trivial (q_pure rfl) rfl sk0 ?_
     refine wpd_off 17 rfl zz8 ⟨_, _, rfl, rfl, rfl⟩ rfl sk0 ?_
     refine wpd_off 18 rfl zz8 ⟨_, _, rfl, rfl, rfl⟩ rfl sk0 ?_
     refine wpd_off 19 rfl zz8 ⟨_, _, rfl, rfl, rfl⟩ rfl sk0 ?_
     refine wpd_off 20 rfl zz8 ⟨_, _, rfl, rfl, rfl⟩ rfl sk0 ?_
     refine wpd_off 21 rfl zz8 ⟨_, _, rfl, rfl, rfl⟩ rfl sk0 ?_
     refine wpd_p 22 rfl zz8 trivial (q_pure rfl) rfl sk0 ?_
     refine wpd_done zz8 ?_
     refine ex_then ?_
     refine wpc_cond_t rfl ?_
     refine wpc_seq <| wpc_region <| wpl_q (q_pure rfl) rfl <| wpl_nil <| ex_then <| wpc_ret ?_
     refine ex_then_ret ?_
     refine ret1 (.inl rfl) rfl rfl ?_
     exact fun w h => ⟨by rw [check_12 zz16 zz28], h.below⟩
    ·
     try simp only [decide_eq_true_eq, decide_eq_false_iff_not, Bool.and_eq_true, Bool.or_eq_true, beq_iff_eq, bne_iff_ne, ne_eq, Bool.not_eq_true', Bool.not_eq_false', Decidable.not_not] at hb18
     refine wpd_p 11 rfl zz8 ⟨_, rfl, rfl⟩ (q_field Tryz.underlying28 rfl Tryz.ti26 rfl rfl _ rfl) rfl sk0 ?_
     refine wpd_q 12 rfl zz8 ⟨_, rfl, rfl⟩ (q_ld Tryz.underlying26 rfl rfl rfl) rfl (fun _ h => h) ?_
     refine wpd_p 13 rfl zz8 ⟨_, rfl, rfl⟩ (q_lenW Tryz.underlying26 rfl zz5) rfl sk0 ?_
     refine wpd_p 14 rfl zz8 ⟨_, rfl, rfl⟩ (q_pure rfl) rfl sk0 ?_
     refine wpd_p 15 rfl zz8 trivial (q_pure rfl) rfl sk0 ?_
     refine wpd_p 16 rfl zz8 trivial (q_pure rfl) rfl sk0 ?_
     refine wpd_bool2 24 22 rfl rfl (fun hb24 => ?_) (fun hb24 => ?_)
     ·
      try simp only [decide_eq_true_eq, decide_eq_false_iff_not, Bool.and_eq_true, Bool.or_eq_true, beq_iff_eq, bne_iff_ne, ne_eq, Bool.not_eq_true', Bool.not_eq_false', Decidable.not_not] at hb24
      refine wpd_off 17 rfl zz8 ⟨_, _, rfl, rfl, rfl⟩ rfl sk0 ?_
      refine wpd_off 18 rfl zz8 ⟨_, _, rfl, rfl, rfl⟩ rfl sk0 ?_
      refine wpd_off 19 rfl zz8 ⟨_, _, rfl, rfl, rfl⟩ rfl sk0 ?_
      refine wpd_off 20 rfl zz8 ⟨_, _, rfl, rfl, rfl⟩ rfl sk0 ?_
      refine wpd_off 21 rfl zz8 ⟨_, _, rfl, rfl, rfl⟩ rfl sk0 ?_
      refine wpd_p 22 rfl zz8 trivial (q_pure rfl) rfl sk0 ?_
      refine wpd_done zz8 ?_
      refine ex_then ?_
      refine wpc_cond_t rfl ?_
      refine wpc_seq <| wpc_region <| wpl_q (q_pure rfl) rfl <| wpl_nil <| ex_then <| wpc_ret ?_
      refine ex_then_ret ?_
      refine ret1 (.inl rfl) rfl rfl ?_
      exact fun w h => ⟨by rw [check_12 zz16 zz28], h.below⟩
     ·
      try simp only [decide_eq_true_eq, decide_eq_false_iff_not, Bool.and_eq_true, Bool.or_eq_true, beq_iff_eq, bne_iff_ne, ne_eq, Bool.not_eq_true', Bool.not_eq_false', Decidable.not_not] at hb24
      refine wpd_p 17 rfl zz8 ⟨_, rfl, rfl⟩ (q_field Tryz.underlying28 rfl Tryz.ti26 rfl rfl _ rfl) rfl sk0 ?_
      refine wpd_q 18 rfl zz8 ⟨_, rfl, rfl⟩ (q_ld Tryz.underlying26 rfl rfl rfl) rfl (fun _ h => h) ?_
      refine wpd_p 19 rfl zz8 ⟨_, rfl, rfl⟩ (q_lenW Tryz.underlying26 rfl zz5) rfl sk0 ?_
      refine wpd_p 20 rfl zz8 ⟨_, rfl, rfl⟩ (q_pure rfl) rfl sk0 ?_
      refine wpd_p 21 rfl zz8 ⟨_, rfl, rfl⟩ (q_pure rfl) rfl sk0 ?_
      refine wpd_p 22 rfl zz8 trivial (q_pure rfl) rfl sk0 ?_
      refine wpd_done zz8 ?_
      refine ex_then ?_
      refine wpc_cond rfl (fun hc30 => ?_) (fun hc30 => ?_)
      ·
       try simp only [decide_eq_true_eq, decide_eq_false_iff_not, Bool.and_eq_true, Bool.or_eq_true, beq_iff_eq, bne_iff_ne, ne_eq, Bool.not_eq_true', Bool.not_eq_false', Decidable.not_not] at hc30
       refine wpc_seq <| wpc_region <| wpl_q (q_pure rfl) rfl <| wpl_nil <| ex_then <| wpc_ret ?_
       refine ex_then_ret ?_
       refine ret1 (.inl rfl) rfl rfl ?_
       exact fun w h => ⟨by rw [check_12 zz16 zz28], h.below⟩
      ·
       simp only [bne_eq_false_iff_eq, decide_eq_false_iff_not, ne_eq, Decidable.not_not] at hc30 hb24
       refine wpc_skip <| ex_then <| wpc_seq <| wpc_region <| wpl_q (q_pure rfl) rfl <| wpl_nil <| ex_then <| wpc_ret ?_
       refine ret1 (.inl rfl) rfl rfl ?_
       exact fun w h => ⟨by rw [check_0 zz16 zz16], h.below⟩
theorem isTime (t : Int) (w : World)   :
    Calls Tryz.prog 79 [.int .i64 t].toArray w (Pur w (.bool (timeF t))) := by
  refine enter (m := 9) (R := Mem w [] [] []) Tryz.func79 rfl rfl (Nat.le_of_ble_eq_true rfl) (Mem.start w) ?_
  refine wpc_seq <| wpc_region <| wpl_q (q_pure rfl) rfl <| wpl_nil <| ex_then <| wpc_seq <| wpc_region <| wpl_q (q_pure rfl) rfl <| wpl_q (q_pure rfl) rfl <| wpl_q (q_pure rfl) rfl ?_
  refine wpl_bool2 5 4 rfl rfl (fun hb5 => ?_) (fun hb5 => ?_)
  ·
   try simp only [decide_eq_true_eq, decide_eq_false_iff_not, Bool.and_eq_true, Bool.or_eq_true, beq_iff_eq, bne_iff_ne, ne_eq, Bool.not_eq_true', Bool.not_eq_false', Decidable.not_not] at hb5
   refine wpl_on rfl rfl <| wpl_q (q_pure rfl) rfl <| wpl_on rfl rfl <| wpl_q (q_pure rfl) rfl <| wpl_q (q_pure rfl) rfl <| wpl_q (q_pure rfl) rfl <| wpl_nil <| ex_then <| wpc_ret ?_
   refine ret1 (.inl rfl) rfl rfl ?_
   exact fun w h => ⟨congrArg (fun b => Ending.returned (Value.bool b)) zz30, h.below⟩
  ·
   try simp only [decide_eq_true_eq, decide_eq_false_iff_not, Bool.and_eq_true, Bool.or_eq_true, beq_iff_eq, bne_iff_ne, ne_eq, Bool.not_eq_true', Bool.not_eq_false', Decidable.not_not] at hb5
   refine wpl_off rfl rfl rfl rfl <| wpl_off rfl rfl rfl rfl <| wpl_q (q_pure rfl) rfl <| wpl_q (q_pure rfl) rfl <| wpl_nil <| ex_then <| wpc_ret ?_
   refine ret1 (.inl rfl) rfl rfl ?_
   exact fun w h => ⟨congrArg (fun b => Ending.returned (Value.bool b)) zz30, h.below⟩
theorem refTime (t : Int) (w : World)   :
    Calls Tryz.prog 64 [.int .i64 t].toArray w (Pur w (.bool (timeF t))) := by
  refine enter (m := 9) (R := Mem w [] [] []) Tryz.func64 rfl rfl (Nat.le_of_ble_eq_true rfl) (Mem.start w) ?_
  refine wpc_seq <| wpc_region <| wpl_q (q_pure rfl) rfl <| wpl_nil <| ex_then <| wpc_seq <| wpc_region <| wpl_q (q_pure rfl) rfl <| wpl_q (q_pure rfl) rfl <| wpl_q (q_pure rfl) rfl ?_
  refine wpl_bool2 5 4 rfl rfl (fun hb5 => ?_) (fun hb5 => ?_)
  ·
   try simp only [decide_eq_true_eq, decide_eq_false_iff_not, Bool.and_eq_true, Bool.or_eq_true, beq_iff_eq, bne_iff_ne, ne_eq, Bool.not_eq_true', Bool.not_eq_false', Decidable.not_not] at hb5
   refine wpl_on rfl rfl <| wpl_q (q_pure rfl) rfl <| wpl_on rfl rfl <| wpl_q (q_pure rfl) rfl <| wpl_q (q_pure rfl) rfl <| wpl_q (q_pure rfl) rfl <| wpl_nil <| ex_then <| wpc_ret ?_
   refine ret1 (.inl rfl) rfl rfl ?_
   exact fun w h => ⟨congrArg (fun b => Ending.returned (Value.bool b)) zz30, h.below⟩
  ·
   try simp only [decide_eq_true_eq, decide_eq_false_iff_not, Bool.and_eq_true, Bool.or_eq_true, beq_iff_eq, bne_iff_ne, ne_eq, Bool.not_eq_true', Bool.not_eq_false', Decidable.not_not] at hb5
   refine wpl_off rfl rfl rfl rfl <| wpl_off rfl rfl rfl rfl <| wpl_q (q_pure rfl) rfl <| wpl_q (q_pure rfl) rfl <| wpl_nil <| ex_then <| wpc_ret ?_
   refine ret1 (.inl rfl) rfl rfl ?_
   exact fun w h => ⟨congrArg (fun b => Ending.returned (Value.bool b)) zz30, h.below⟩
theorem clockCheck (fr tt : Int) (w : World)   :
    Calls Tryz.prog 49 [.agg #[.int .i64 fr, .int .i64 tt]].toArray w (Pur w (.int .i64 (if winF fr tt then 0 else 8))) := by
  refine enter (m := 20) (R := Mem w [] [] []) Tryz.func49 rfl rfl (Nat.le_of_ble_eq_true rfl) (Mem.start w) ?_
  refine wpc_seq <| wpc_region ?_
  refine wpl_t (t_box rfl [.int .i64 fr, .int .i64 tt] rfl) rfl (fun b1 => ?_)
  refine wpl_q (q_pure rfl) rfl <| wpl_nil <| ex_then <| wpc_seq <| wpc_seq <| wpc_region <| wpl_q (q_field Tryz.underlying24 rfl Tryz.ti2 rfl rfl _ rfl) rfl ?_
  refine wpl_q (q_ld Tryz.underlying2 rfl rfl zz27) rfl ?_
  refine wpl_t (t_pur Tryz.hb79 rfl fun w h => isTime _ w) rfl (fun b5 => ?_)
  refine wpl_q (q_pure rfl) rfl <| wpl_q (q_pure rfl) rfl ?_
  refine wpl_bool2 7 6 rfl rfl (fun hb7 => ?_) (fun hb7 => ?_)
  ·
   try simp only [decide_eq_true_eq, decide_eq_false_iff_not, Bool.and_eq_true, Bool.or_eq_true, beq_iff_eq, bne_iff_ne, ne_eq, Bool.not_eq_true', Bool.not_eq_false', Decidable.not_not] at hb7
   refine wpl_off rfl rfl rfl rfl <| wpl_off rfl rfl rfl rfl <| wpl_off rfl rfl rfl rfl <| wpl_off rfl rfl rfl rfl <| wpl_q (q_pure rfl) rfl <| wpl_q (q_pure rfl) rfl <| wpl_off rfl rfl rfl rfl <| wpl_off rfl rfl rfl rfl <| wpl_off rfl rfl rfl rfl <| wpl_off rfl rfl rfl rfl <| wpl_off rfl rfl rfl rfl <| wpl_q (q_pure rfl) rfl ?_
   refine wpl_nil <| ex_then ?_
   refine wpc_cond_t rfl ?_
   refine wpc_seq <| wpc_region <| wpl_q (q_pure rfl) rfl <| wpl_nil <| ex_then <| wpc_ret ?_
   refine ex_then_ret ?_
   refine ret1 (.inl rfl) rfl rfl ?_
   exact fun w h => ⟨zz33, h.below⟩
  ·
   try simp only [decide_eq_true_eq, decide_eq_false_iff_not, Bool.and_eq_true, Bool.or_eq_true, beq_iff_eq, bne_iff_ne, ne_eq, Bool.not_eq_true', Bool.not_eq_false', Decidable.not_not] at hb7
   refine wpl_on rfl rfl <| wpl_q (q_field Tryz.underlying24 rfl Tryz.ti2 rfl rfl _ rfl) rfl <| wpl_on rfl rfl ?_
   refine wpl_q (q_ld Tryz.underlying2 rfl rfl zz27) rfl ?_
   refine wpl_on rfl rfl ?_
   refine wpl_t (t_pur Tryz.hb79 rfl fun w h => isTime _ w) rfl (fun b10 => ?_)
   refine wpl_on rfl rfl <| wpl_q (q_pure rfl) rfl <| wpl_q (q_pure rfl) rfl <| wpl_q (q_pure rfl) rfl ?_
   refine wpl_bool2 13 11 rfl rfl (fun hb13 => ?_) (fun hb13 => ?_)
   ·
    try simp only [decide_eq_true_eq, decide_eq_false_iff_not, Bool.and_eq_true, Bool.or_eq_true, beq_iff_eq, bne_iff_ne, ne_eq, Bool.not_eq_true', Bool.not_eq_false', Decidable.not_not] at hb13
    refine wpl_off rfl rfl rfl rfl <| wpl_off rfl rfl rfl rfl <| wpl_off rfl rfl rfl rfl <| wpl_off rfl rfl rfl rfl <| wpl_off rfl rfl rfl rfl <| wpl_q (q_pure rfl) rfl <| wpl_nil <| ex_then ?_
    refine wpc_cond_t rfl ?_
    refine wpc_seq <| wpc_region <| wpl_q (q_pure rfl) rfl <| wpl_nil <| ex_then <| wpc_ret ?_
    refine ex_then_ret ?_
    refine ret1 (.inl rfl) rfl rfl ?_
    exact fun w h => ⟨zz33, h.below⟩
   ·
    try simp only [decide_eq_true_eq, decide_eq_false_iff_not, Bool.and_eq_true, Bool.or_eq_true, beq_iff_eq, bne_iff_ne, ne_eq, Bool.not_eq_true', Bool.not_eq_false', Decidable.not_not] at hb13
    refine wpl_on rfl rfl <| wpl_q (q_field Tryz.underlying24 rfl Tryz.ti2 rfl rfl _ rfl) rfl <| wpl_on rfl rfl ?_
    refine wpl_q (q_ld Tryz.underlying2 rfl rfl zz27) rfl ?_
    refine wpl_on rfl rfl <| wpl_q (q_field Tryz.underlying24 rfl Tryz.ti2 rfl rfl _ rfl) rfl <| wpl_on rfl rfl ?_
    refine wpl_q (q_ld Tryz.underlying2 rfl rfl zz27) rfl ?_
    refine wpl_on rfl rfl <| wpl_q (q_pure rfl) rfl <| wpl_q (q_pure rfl) rfl <| wpl_nil <| ex_then ?_
    refine wpc_cond rfl (fun hc19 => ?_) (fun hc19 => ?_)
    ·
     try simp only [decide_eq_true_eq, decide_eq_false_iff_not, Bool.and_eq_true, Bool.or_eq_true, beq_iff_eq, bne_iff_ne, ne_eq, Bool.not_eq_true', Bool.not_eq_false', Decidable.not_not] at hc19
     refine wpc_seq <| wpc_region <| wpl_q (q_pure rfl) rfl <| wpl_nil <| ex_then <| wpc_ret ?_
     refine ex_then_ret ?_
     refine ret1 (.inl rfl) rfl rfl ?_
     exact fun w h => ⟨zz33, h.below⟩
    ·
     try simp only [decide_eq_true_eq, decide_eq_false_iff_not, Bool.and_eq_true, Bool.or_eq_true, beq_iff_eq, bne_iff_ne, ne_eq, Bool.not_eq_true', Bool.not_eq_false', Decidable.not_not] at hc19
     refine wpc_skip <| ex_then <| wpc_seq <| wpc_region <| wpl_q (q_pure rfl) rfl <| wpl_nil <| ex_then <| wpc_ret ?_
     refine ret1 (.inl rfl) rfl rfl ?_
     exact fun w h => ⟨by rw [show (if winF fr tt then (0 : Int) else 8) = 0 by first | rfl | (rw [show winF fr tt = true from zz25]; rfl)], h.below⟩
theorem refCheck4 (fr tt : Int) (w : World)   :
    Calls Tryz.prog 35 [.agg #[.int .i64 fr, .int .i64 tt]].toArray w (Pur w (.int .i64 (if winF fr tt then 0 else 8))) := by
  refine enter (m := 18) (R := Mem w [] [] []) Tryz.func35 rfl rfl (Nat.le_of_ble_eq_true rfl) (Mem.start w) ?_
  refine wpc_seq <| wpc_region ?_
  refine wpl_t (t_box rfl [.int .i64 fr, .int .i64 tt] rfl) rfl (fun b1 => ?_)
  refine wpl_q (q_pure rfl) rfl <| wpl_nil <| ex_then <| wpc_seq <| wpc_seq <| wpc_region <| wpl_q (q_field Tryz.underlying24 rfl Tryz.ti2 rfl rfl _ rfl) rfl ?_
  refine wpl_q (q_ld Tryz.underlying2 rfl rfl zz27) rfl ?_
  refine wpl_t (t_pur Tryz.hb64 rfl fun w h => refTime _ w) rfl (fun b5 => ?_)
  refine wpl_q (q_pure rfl) rfl ?_
  refine wpl_bool2 6 5 rfl rfl (fun hb6 => ?_) (fun hb6 => ?_)
  ·
   try simp only [decide_eq_true_eq, decide_eq_false_iff_not, Bool.and_eq_true, Bool.or_eq_true, beq_iff_eq, bne_iff_ne, ne_eq, Bool.not_eq_true', Bool.not_eq_false', Decidable.not_not] at hb6
   refine wpl_on rfl rfl <| wpl_q (q_field Tryz.underlying24 rfl Tryz.ti2 rfl rfl _ rfl) rfl <| wpl_on rfl rfl ?_
   refine wpl_q (q_ld Tryz.underlying2 rfl rfl zz27) rfl ?_
   refine wpl_on rfl rfl ?_
   refine wpl_t (t_pur Tryz.hb64 rfl fun w h => refTime _ w) rfl (fun b9 => ?_)
   refine wpl_q (q_pure rfl) rfl <| wpl_q (q_pure rfl) rfl ?_
   refine wpl_bool2 11 9 rfl rfl (fun hb11 => ?_) (fun hb11 => ?_)
   ·
    try simp only [decide_eq_true_eq, decide_eq_false_iff_not, Bool.and_eq_true, Bool.or_eq_true, beq_iff_eq, bne_iff_ne, ne_eq, Bool.not_eq_true', Bool.not_eq_false', Decidable.not_not] at hb11
    refine wpl_on rfl rfl <| wpl_q (q_field Tryz.underlying24 rfl Tryz.ti2 rfl rfl _ rfl) rfl <| wpl_on rfl rfl ?_
    refine wpl_q (q_ld Tryz.underlying2 rfl rfl zz27) rfl ?_
    refine wpl_on rfl rfl <| wpl_q (q_field Tryz.underlying24 rfl Tryz.ti2 rfl rfl _ rfl) rfl <| wpl_on rfl rfl ?_
    refine wpl_q (q_ld Tryz.underlying2 rfl rfl zz27) rfl ?_
    refine wpl_on rfl rfl <| wpl_q (q_pure rfl) rfl <| wpl_q (q_pure rfl) rfl <| wpl_nil <| ex_then ?_
    refine wpc_cond rfl (fun hc17 => ?_) (fun hc17 => ?_)
    ·
     try simp only [decide_eq_true_eq, decide_eq_false_iff_not, Bool.and_eq_true, Bool.or_eq_true, beq_iff_eq, bne_iff_ne, ne_eq, Bool.not_eq_true', Bool.not_eq_false', Decidable.not_not] at hc17
     refine wpc_seq <| wpc_region <| wpl_q (q_pure rfl) rfl <| wpl_nil <| ex_then <| wpc_ret ?_
     refine ex_then_ret ?_
     refine ret1 (.inl rfl) rfl rfl ?_
     exact fun w h => ⟨by rw [show (if winF fr tt then (0 : Int) else 8) = 0 by first | rfl | (rw [show winF fr tt = true from zz25]; rfl)], h.below⟩
    ·
     try simp only [decide_eq_true_eq, decide_eq_false_iff_not, Bool.and_eq_true, Bool.or_eq_true, beq_iff_eq, bne_iff_ne, ne_eq, Bool.not_eq_true', Bool.not_eq_false', Decidable.not_not] at hc17
     refine wpc_skip <| ex_then <| wpc_seq <| wpc_region <| wpl_q (q_pure rfl) rfl <| wpl_nil <| ex_then <| wpc_ret ?_
     refine ret1 (.inl rfl) rfl rfl ?_
     exact fun w h => ⟨zz33, h.below⟩
   ·
    try simp only [decide_eq_true_eq, decide_eq_false_iff_not, Bool.and_eq_true, Bool.or_eq_true, beq_iff_eq, bne_iff_ne, ne_eq, Bool.not_eq_true', Bool.not_eq_false', Decidable.not_not] at hb11
    refine wpl_off rfl rfl rfl rfl <| wpl_off rfl rfl rfl rfl <| wpl_off rfl rfl rfl rfl <| wpl_off rfl rfl rfl rfl <| wpl_off rfl rfl rfl rfl <| wpl_q (q_pure rfl) rfl <| wpl_nil <| ex_then ?_
    refine wpc_cond_f rfl ?_
    refine wpc_skip <| ex_then <| wpc_seq <| wpc_region <| wpl_q (q_pure rfl) rfl <| wpl_nil <| ex_then <| wpc_ret ?_
    refine ret1 (.inl rfl) rfl rfl ?_
    exact fun w h => ⟨zz33, h.below⟩
  ·
   try simp only [decide_eq_true_eq, decide_eq_false_iff_not, Bool.and_eq_true, Bool.or_eq_true, beq_iff_eq, bne_iff_ne, ne_eq, Bool.not_eq_true', Bool.not_eq_false', Decidable.not_not] at hb6
   refine wpl_off rfl rfl rfl rfl <| wpl_off rfl rfl rfl rfl <| wpl_off rfl rfl rfl rfl <| wpl_q (q_pure rfl) rfl <| wpl_q (q_pure rfl) rfl <| wpl_off rfl rfl rfl rfl <| wpl_off rfl rfl rfl rfl <| wpl_off rfl rfl rfl rfl <| wpl_off rfl rfl rfl rfl <| wpl_off rfl rfl rfl rfl <| wpl_q (q_pure rfl) rfl <| wpl_nil ?_
   refine ex_then ?_
   refine wpc_cond_f rfl ?_
   refine wpc_skip <| ex_then <| wpc_seq <| wpc_region <| wpl_q (q_pure rfl) rfl <| wpl_nil <| ex_then <| wpc_ret ?_
   refine ret1 (.inl rfl) rfl rfl ?_
   exact fun w h => ⟨zz33, h.below⟩
theorem good1 (c : UInt8) (w : World)   :
    Calls Tryz.prog 78 [.int .u8 c.toNat].toArray w (Pur w (.bool (goodB c))) := by
  refine enter (m := 33) (R := Mem w [] [] []) Tryz.func78 rfl rfl (Nat.le_of_ble_eq_true rfl) (Mem.start w) ?_
  refine wpc_seq <| wpc_region <| wpl_q (q_pure rfl) rfl <| wpl_nil <| ex_then <| wpc_seq <| wpc_region <| wpl_q (q_pure rfl) rfl <| wpl_q (q_pure rfl) rfl <| wpl_q (q_pure rfl) rfl ?_
  refine wpl_bool2 5 4 rfl rfl (fun hb5 => ?_) (fun hb5 => ?_)
  ·
   try simp only [decide_eq_true_eq, decide_eq_false_iff_not, Bool.and_eq_true, Bool.or_eq_true, beq_iff_eq, bne_iff_ne, ne_eq, Bool.not_eq_true', Bool.not_eq_false', Decidable.not_not] at hb5
   refine wpl_on rfl rfl <| wpl_q (q_pure rfl) rfl <| wpl_on rfl rfl <| wpl_q (q_pure rfl) rfl <| wpl_q (q_pure rfl) rfl <| wpl_q (q_pure rfl) rfl ?_
   refine wpl_bool2 9 7 rfl rfl (fun hb9 => ?_) (fun hb9 => ?_)
   ·
    try simp only [decide_eq_true_eq, decide_eq_false_iff_not, Bool.and_eq_true, Bool.or_eq_true, beq_iff_eq, bne_iff_ne, ne_eq, Bool.not_eq_true', Bool.not_eq_false', Decidable.not_not] at hb9
    refine wpl_off rfl rfl rfl rfl <| wpl_off rfl rfl rfl rfl <| wpl_off rfl rfl rfl rfl <| wpl_off rfl rfl rfl rfl <| wpl_off rfl rfl rfl rfl <| wpl_off rfl rfl rfl rfl <| wpl_q (q_pure rfl) rfl <| wpl_q (q_pure rfl) rfl <| wpl_off rfl rfl rfl rfl <| wpl_off rfl rfl rfl rfl <| wpl_off rfl rfl rfl rfl <| wpl_off rfl rfl rfl rfl ?_
    refine wpl_off rfl rfl rfl rfl <| wpl_off rfl rfl rfl rfl <| wpl_q (q_pure rfl) rfl <| wpl_q (q_pure rfl) rfl <| wpl_off rfl rfl rfl rfl <| wpl_off rfl rfl rfl rfl <| wpl_q (q_pure rfl) rfl <| wpl_q (q_pure rfl) rfl <| wpl_off rfl rfl rfl rfl <| wpl_off rfl rfl rfl rfl <| wpl_q (q_pure rfl) rfl <| wpl_q (q_pure rfl) rfl ?_
    refine wpl_nil <| ex_then <| wpc_ret ?_
    refine ret1 (.inl rfl) rfl rfl ?_
    exact fun w h => ⟨congrArg (fun b => Ending.returned (Value.bool b)) zz13, h.below⟩
   ·
    try simp only [decide_eq_true_eq, decide_eq_false_iff_not, Bool.and_eq_true, Bool.or_eq_true, beq_iff_eq, bne_iff_ne, ne_eq, Bool.not_eq_true', Bool.not_eq_false', Decidable.not_not] at hb9
    refine wpl_on rfl rfl <| wpl_q (q_pure rfl) rfl <| wpl_on rfl rfl <| wpl_q (q_pure rfl) rfl <| wpl_on rfl rfl <| wpl_q (q_pure rfl) rfl ?_
    refine wpl_bool2 12 11 rfl rfl (fun hb12 => ?_) (fun hb12 => ?_)
    ·
     try simp only [decide_eq_true_eq, decide_eq_false_iff_not, Bool.and_eq_true, Bool.or_eq_true, beq_iff_eq, bne_iff_ne, ne_eq, Bool.not_eq_true', Bool.not_eq_false', Decidable.not_not] at hb12
     refine wpl_on rfl rfl <| wpl_q (q_pure rfl) rfl <| wpl_on rfl rfl <| wpl_q (q_pure rfl) rfl <| wpl_on rfl rfl <| wpl_q (q_pure rfl) rfl <| wpl_q (q_pure rfl) rfl <| wpl_q (q_pure rfl) rfl ?_
     refine wpl_bool2 17 14 rfl rfl (fun hb17 => ?_) (fun hb17 => ?_)
     ·
      try simp only [decide_eq_true_eq, decide_eq_false_iff_not, Bool.and_eq_true, Bool.or_eq_true, beq_iff_eq, bne_iff_ne, ne_eq, Bool.not_eq_true', Bool.not_eq_false', Decidable.not_not] at hb17
      refine wpl_off rfl rfl rfl rfl <| wpl_off rfl rfl rfl rfl <| wpl_off rfl rfl rfl rfl <| wpl_off rfl rfl rfl rfl <| wpl_off rfl rfl rfl rfl <| wpl_off rfl rfl rfl rfl <| wpl_q (q_pure rfl) rfl <| wpl_q (q_pure rfl) rfl <| wpl_off rfl rfl rfl rfl <| wpl_off rfl rfl rfl rfl <| wpl_q (q_pure rfl) rfl <| wpl_q (q_pure rfl) rfl ?_
      refine wpl_off rfl rfl rfl rfl <| wpl_off rfl rfl rfl rfl <| wpl_q (q_pure rfl) rfl <| wpl_q (q_pure rfl) rfl <| wpl_nil <| ex_then <| wpc_ret ?_
      refine ret1 (.inl rfl) rfl rfl ?_
      exact fun w h => ⟨congrArg (fun b => Ending.returned (Value.bool b)) zz13, h.below⟩
     ·
      try simp only [decide_eq_true_eq, decide_eq_false_iff_not, Bool.and_eq_true, Bool.or_eq_true, beq_iff_eq, bne_iff_ne, ne_eq, Bool.not_eq_true', Bool.not_eq_false', Decidable.not_not] at hb17
      refine wpl_on rfl rfl <| wpl_q (q_pure rfl) rfl <| wpl_on rfl rfl <| wpl_q (q_pure rfl) rfl <| wpl_on rfl rfl <| wpl_q (q_pure rfl) rfl ?_
      refine wpl_bool2 20 19 rfl rfl (fun hb20 => ?_) (fun hb20 => ?_)
      ·
       try simp only [decide_eq_true_eq, decide_eq_false_iff_not, Bool.and_eq_true, Bool.or_eq_true, beq_iff_eq, bne_iff_ne, ne_eq, Bool.not_eq_true', Bool.not_eq_false', Decidable.not_not] at hb20
       refine wpl_on rfl rfl <| wpl_q (q_pure rfl) rfl <| wpl_on rfl rfl <| wpl_q (q_pure rfl) rfl <| wpl_on rfl rfl <| wpl_q (q_pure rfl) rfl <| wpl_q (q_pure rfl) rfl <| wpl_q (q_pure rfl) rfl ?_
       refine wpl_bool2 25 22 rfl rfl (fun hb25 => ?_) (fun hb25 => ?_)
       ·
        try simp only [decide_eq_true_eq, decide_eq_false_iff_not, Bool.and_eq_true, Bool.or_eq_true, beq_iff_eq, bne_iff_ne, ne_eq, Bool.not_eq_true', Bool.not_eq_false', Decidable.not_not] at hb25
        refine wpl_off rfl rfl rfl rfl <| wpl_off rfl rfl rfl rfl <| wpl_q (q_pure rfl) rfl <| wpl_q (q_pure rfl) rfl <| wpl_off rfl rfl rfl rfl <| wpl_off rfl rfl rfl rfl <| wpl_q (q_pure rfl) rfl <| wpl_q (q_pure rfl) rfl <| wpl_nil <| ex_then <| wpc_ret ?_
        refine ret1 (.inl rfl) rfl rfl ?_
        exact fun w h => ⟨congrArg (fun b => Ending.returned (Value.bool b)) zz13, h.below⟩
       ·
        try simp only [decide_eq_true_eq, decide_eq_false_iff_not, Bool.and_eq_true, Bool.or_eq_true, beq_iff_eq, bne_iff_ne, ne_eq, Bool.not_eq_true', Bool.not_eq_false', Decidable.not_not] at hb25
        refine wpl_on rfl rfl <| wpl_q (q_pure rfl) rfl <| wpl_on rfl rfl ?_
        refine wpl_q (q8_eql (b := (45 : UInt8)) rfl rfl) rfl ?_
        refine wpl_q (q_pure rfl) rfl <| wpl_q (q_pure rfl) rfl ?_
        refine wpl_bool2 29 27 rfl rfl (fun hb29 => ?_) (fun hb29 => ?_)
        ·
         try simp only [decide_eq_true_eq, decide_eq_false_iff_not, Bool.and_eq_true, Bool.or_eq_true, beq_iff_eq, bne_iff_ne, ne_eq, Bool.not_eq_true', Bool.not_eq_false', Decidable.not_not] at hb29
         refine wpl_off rfl rfl rfl rfl <| wpl_off rfl rfl rfl rfl <| wpl_q (q_pure rfl) rfl <| wpl_q (q_pure rfl) rfl <| wpl_nil <| ex_then <| wpc_ret ?_
         refine ret1 (.inl rfl) rfl rfl ?_
         exact fun w h => ⟨congrArg (fun b => Ending.returned (Value.bool b)) zz13, h.below⟩
        ·
         try simp only [decide_eq_true_eq, decide_eq_false_iff_not, Bool.and_eq_true, Bool.or_eq_true, beq_iff_eq, bne_iff_ne, ne_eq, Bool.not_eq_true', Bool.not_eq_false', Decidable.not_not] at hb29
         refine wpl_on rfl rfl <| wpl_q (q_pure rfl) rfl <| wpl_on rfl rfl ?_
         refine wpl_q (q8_eql (b := (95 : UInt8)) rfl rfl) rfl ?_
         refine wpl_q (q_pure rfl) rfl <| wpl_q (q_pure rfl) rfl <| wpl_nil <| ex_then <| wpc_ret ?_
         refine ret1 (.inl rfl) rfl rfl ?_
         exact fun w h => ⟨congrArg (fun b => Ending.returned (Value.bool b)) zz13, h.below⟩
      ·
       try simp only [decide_eq_true_eq, decide_eq_false_iff_not, Bool.and_eq_true, Bool.or_eq_true, beq_iff_eq, bne_iff_ne, ne_eq, Bool.not_eq_true', Bool.not_eq_false', Decidable.not_not] at hb20
       refine wpl_off rfl rfl rfl rfl <| wpl_off rfl rfl rfl rfl <| wpl_on rfl rfl <| wpl_q (q_pure rfl) rfl <| wpl_q (q_pure rfl) rfl <| wpl_q (q_pure rfl) rfl <| wpl_on rfl rfl <| wpl_q (q_pure rfl) rfl <| wpl_on rfl rfl ?_
       refine wpl_q (q8_eql (b := (45 : UInt8)) rfl rfl) rfl ?_
       refine wpl_q (q_pure rfl) rfl <| wpl_q (q_pure rfl) rfl ?_
       refine wpl_bool2 29 27 rfl rfl (fun hb29 => ?_) (fun hb29 => ?_)
       ·
        try simp only [decide_eq_true_eq, decide_eq_false_iff_not, Bool.and_eq_true, Bool.or_eq_true, beq_iff_eq, bne_iff_ne, ne_eq, Bool.not_eq_true', Bool.not_eq_false', Decidable.not_not] at hb29
        refine wpl_off rfl rfl rfl rfl <| wpl_off rfl rfl rfl rfl <| wpl_q (q_pure rfl) rfl <| wpl_q (q_pure rfl) rfl <| wpl_nil <| ex_then <| wpc_ret ?_
        refine ret1 (.inl rfl) rfl rfl ?_
        exact fun w h => ⟨congrArg (fun b => Ending.returned (Value.bool b)) zz13, h.below⟩
       ·
        try simp only [decide_eq_true_eq, decide_eq_false_iff_not, Bool.and_eq_true, Bool.or_eq_true, beq_iff_eq, bne_iff_ne, ne_eq, Bool.not_eq_true', Bool.not_eq_false', Decidable.not_not] at hb29
        refine wpl_on rfl rfl <| wpl_q (q_pure rfl) rfl <| wpl_on rfl rfl ?_
        refine wpl_q (q8_eql (b := (95 : UInt8)) rfl rfl) rfl ?_
        refine wpl_q (q_pure rfl) rfl <| wpl_q (q_pure rfl) rfl <| wpl_nil <| ex_then <| wpc_ret ?_
        refine ret1 (.inl rfl) rfl rfl ?_
        exact fun w h => ⟨congrArg (fun b => Ending.returned (Value.bool b)) zz13, h.below⟩
    ·
     try simp only [decide_eq_true_eq, decide_eq_false_iff_not, Bool.and_eq_true, Bool.or_eq_true, beq_iff_eq, bne_iff_ne, ne_eq, Bool.not_eq_true', Bool.not_eq_false', Decidable.not_not] at hb12
     refine wpl_off rfl rfl rfl rfl <| wpl_off rfl rfl rfl rfl <| wpl_on rfl rfl <| wpl_q (q_pure rfl) rfl <| wpl_q (q_pure rfl) rfl <| wpl_q (q_pure rfl) rfl <| wpl_on rfl rfl <| wpl_q (q_pure rfl) rfl <| wpl_on rfl rfl <| wpl_q (q_pure rfl) rfl <| wpl_on rfl rfl <| wpl_q (q_pure rfl) rfl ?_
     refine wpl_bool2 20 19 rfl rfl (fun hb20 => ?_) (fun hb20 => ?_)
     ·
      try simp only [decide_eq_true_eq, decide_eq_false_iff_not, Bool.and_eq_true, Bool.or_eq_true, beq_iff_eq, bne_iff_ne, ne_eq, Bool.not_eq_true', Bool.not_eq_false', Decidable.not_not] at hb20
      refine wpl_on rfl rfl <| wpl_q (q_pure rfl) rfl <| wpl_on rfl rfl <| wpl_q (q_pure rfl) rfl <| wpl_on rfl rfl <| wpl_q (q_pure rfl) rfl <| wpl_q (q_pure rfl) rfl <| wpl_q (q_pure rfl) rfl ?_
      refine wpl_bool2 25 22 rfl rfl (fun hb25 => ?_) (fun hb25 => ?_)
      ·
       try simp only [decide_eq_true_eq, decide_eq_false_iff_not, Bool.and_eq_true, Bool.or_eq_true, beq_iff_eq, bne_iff_ne, ne_eq, Bool.not_eq_true', Bool.not_eq_false', Decidable.not_not] at hb25
       refine wpl_off rfl rfl rfl rfl <| wpl_off rfl rfl rfl rfl <| wpl_q (q_pure rfl) rfl <| wpl_q (q_pure rfl) rfl <| wpl_off rfl rfl rfl rfl <| wpl_off rfl rfl rfl rfl <| wpl_q (q_pure rfl) rfl <| wpl_q (q_pure rfl) rfl <| wpl_nil <| ex_then <| wpc_ret ?_
       refine ret1 (.inl rfl) rfl rfl ?_
       exact fun w h => ⟨congrArg (fun b => Ending.returned (Value.bool b)) zz13, h.below⟩
      ·
       try simp only [decide_eq_true_eq, decide_eq_false_iff_not, Bool.and_eq_true, Bool.or_eq_true, beq_iff_eq, bne_iff_ne, ne_eq, Bool.not_eq_true', Bool.not_eq_false', Decidable.not_not] at hb25
       refine wpl_on rfl rfl <| wpl_q (q_pure rfl) rfl <| wpl_on rfl rfl ?_
       refine wpl_q (q8_eql (b := (45 : UInt8)) rfl rfl) rfl ?_
       refine wpl_q (q_pure rfl) rfl <| wpl_q (q_pure rfl) rfl ?_
       refine wpl_bool2 29 27 rfl rfl (fun hb29 => ?_) (fun hb29 => ?_)
       ·
        try simp only [decide_eq_true_eq, decide_eq_false_iff_not, Bool.and_eq_true, Bool.or_eq_true, beq_iff_eq, bne_iff_ne, ne_eq, Bool.not_eq_true', Bool.not_eq_false', Decidable.not_not] at hb29
        refine wpl_off rfl rfl rfl rfl <| wpl_off rfl rfl rfl rfl <| wpl_q (q_pure rfl) rfl <| wpl_q (q_pure rfl) rfl <| wpl_nil <| ex_then <| wpc_ret ?_
        refine ret1 (.inl rfl) rfl rfl ?_
        exact fun w h => ⟨congrArg (fun b => Ending.returned (Value.bool b)) zz13, h.below⟩
       ·
        try simp only [decide_eq_true_eq, decide_eq_false_iff_not, Bool.and_eq_true, Bool.or_eq_true, beq_iff_eq, bne_iff_ne, ne_eq, Bool.not_eq_true', Bool.not_eq_false', Decidable.not_not] at hb29
        refine wpl_on rfl rfl <| wpl_q (q_pure rfl) rfl <| wpl_on rfl rfl ?_
        refine wpl_q (q8_eql (b := (95 : UInt8)) rfl rfl) rfl ?_
        refine wpl_q (q_pure rfl) rfl <| wpl_q (q_pure rfl) rfl <| wpl_nil <| ex_then <| wpc_ret ?_
        refine ret1 (.inl rfl) rfl rfl ?_
        exact fun w h => ⟨congrArg (fun b => Ending.returned (Value.bool b)) zz13, h.below⟩
     ·
      try simp only [decide_eq_true_eq, decide_eq_false_iff_not, Bool.and_eq_true, Bool.or_eq_true, beq_iff_eq, bne_iff_ne, ne_eq, Bool.not_eq_true', Bool.not_eq_false', Decidable.not_not] at hb20
      refine wpl_off rfl rfl rfl rfl <| wpl_off rfl rfl rfl rfl <| wpl_on rfl rfl <| wpl_q (q_pure rfl) rfl <| wpl_q (q_pure rfl) rfl <| wpl_q (q_pure rfl) rfl <| wpl_on rfl rfl <| wpl_q (q_pure rfl) rfl <| wpl_on rfl rfl ?_
      refine wpl_q (q8_eql (b := (45 : UInt8)) rfl rfl) rfl ?_
      refine wpl_q (q_pure rfl) rfl <| wpl_q (q_pure rfl) rfl ?_
      refine wpl_bool2 29 27 rfl rfl (fun hb29 => ?_) (fun hb29 => ?_)
      ·
       try simp only [decide_eq_true_eq, decide_eq_false_iff_not, Bool.and_eq_true, Bool.or_eq_true, beq_iff_eq, bne_iff_ne, ne_eq, Bool.not_eq_true', Bool.not_eq_false', Decidable.not_not] at hb29
       refine wpl_off rfl rfl rfl rfl <| wpl_off rfl rfl rfl rfl <| wpl_q (q_pure rfl) rfl <| wpl_q (q_pure rfl) rfl <| wpl_nil <| ex_then <| wpc_ret ?_
       refine ret1 (.inl rfl) rfl rfl ?_
       exact fun w h => ⟨congrArg (fun b => Ending.returned (Value.bool b)) zz13, h.below⟩
      ·
       try simp only [decide_eq_true_eq, decide_eq_false_iff_not, Bool.and_eq_true, Bool.or_eq_true, beq_iff_eq, bne_iff_ne, ne_eq, Bool.not_eq_true', Bool.not_eq_false', Decidable.not_not] at hb29
       refine wpl_on rfl rfl <| wpl_q (q_pure rfl) rfl <| wpl_on rfl rfl ?_
       refine wpl_q (q8_eql (b := (95 : UInt8)) rfl rfl) rfl ?_
       refine wpl_q (q_pure rfl) rfl <| wpl_q (q_pure rfl) rfl <| wpl_nil <| ex_then <| wpc_ret ?_
       refine ret1 (.inl rfl) rfl rfl ?_
       exact fun w h => ⟨congrArg (fun b => Ending.returned (Value.bool b)) zz13, h.below⟩
  ·
   try simp only [decide_eq_true_eq, decide_eq_false_iff_not, Bool.and_eq_true, Bool.or_eq_true, beq_iff_eq, bne_iff_ne, ne_eq, Bool.not_eq_true', Bool.not_eq_false', Decidable.not_not] at hb5
   refine wpl_off rfl rfl rfl rfl <| wpl_off rfl rfl rfl rfl <| wpl_q (q_pure rfl) rfl <| wpl_q (q_pure rfl) rfl <| wpl_on rfl rfl <| wpl_q (q_pure rfl) rfl <| wpl_on rfl rfl <| wpl_q (q_pure rfl) rfl <| wpl_on rfl rfl <| wpl_q (q_pure rfl) rfl ?_
   refine wpl_bool2 12 11 rfl rfl (fun hb12 => ?_) (fun hb12 => ?_)
   ·
    try simp only [decide_eq_true_eq, decide_eq_false_iff_not, Bool.and_eq_true, Bool.or_eq_true, beq_iff_eq, bne_iff_ne, ne_eq, Bool.not_eq_true', Bool.not_eq_false', Decidable.not_not] at hb12
    refine wpl_on rfl rfl <| wpl_q (q_pure rfl) rfl <| wpl_on rfl rfl <| wpl_q (q_pure rfl) rfl <| wpl_on rfl rfl <| wpl_q (q_pure rfl) rfl <| wpl_q (q_pure rfl) rfl <| wpl_q (q_pure rfl) rfl ?_
    refine wpl_bool2 17 14 rfl rfl (fun hb17 => ?_) (fun hb17 => ?_)
    ·
     try simp only [decide_eq_true_eq, decide_eq_false_iff_not, Bool.and_eq_true, Bool.or_eq_true, beq_iff_eq, bne_iff_ne, ne_eq, Bool.not_eq_true', Bool.not_eq_false', Decidable.not_not] at hb17
     refine wpl_off rfl rfl rfl rfl <| wpl_off rfl rfl rfl rfl <| wpl_off rfl rfl rfl rfl <| wpl_off rfl rfl rfl rfl <| wpl_off rfl rfl rfl rfl <| wpl_off rfl rfl rfl rfl <| wpl_q (q_pure rfl) rfl <| wpl_q (q_pure rfl) rfl <| wpl_off rfl rfl rfl rfl <| wpl_off rfl rfl rfl rfl <| wpl_q (q_pure rfl) rfl <| wpl_q (q_pure rfl) rfl ?_
     refine wpl_off rfl rfl rfl rfl <| wpl_off rfl rfl rfl rfl <| wpl_q (q_pure rfl) rfl <| wpl_q (q_pure rfl) rfl <| wpl_nil <| ex_then <| wpc_ret ?_
     refine ret1 (.inl rfl) rfl rfl ?_
     exact fun w h => ⟨congrArg (fun b => Ending.returned (Value.bool b)) zz13, h.below⟩
    ·
     try simp only [decide_eq_true_eq, decide_eq_false_iff_not, Bool.and_eq_true, Bool.or_eq_true, beq_iff_eq, bne_iff_ne, ne_eq, Bool.not_eq_true', Bool.not_eq_false', Decidable.not_not] at hb17
     refine wpl_on rfl rfl <| wpl_q (q_pure rfl) rfl <| wpl_on rfl rfl <| wpl_q (q_pure rfl) rfl <| wpl_on rfl rfl <| wpl_q (q_pure rfl) rfl ?_
     refine wpl_bool2 20 19 rfl rfl (fun hb20 => ?_) (fun hb20 => ?_)
     ·
      try simp only [decide_eq_true_eq, decide_eq_false_iff_not, Bool.and_eq_true, Bool.or_eq_true, beq_iff_eq, bne_iff_ne, ne_eq, Bool.not_eq_true', Bool.not_eq_false', Decidable.not_not] at hb20
      refine wpl_on rfl rfl <| wpl_q (q_pure rfl) rfl <| wpl_on rfl rfl <| wpl_q (q_pure rfl) rfl <| wpl_on rfl rfl <| wpl_q (q_pure rfl) rfl <| wpl_q (q_pure rfl) rfl <| wpl_q (q_pure rfl) rfl ?_
      refine wpl_bool2 25 22 rfl rfl (fun hb25 => ?_) (fun hb25 => ?_)
      ·
       try simp only [decide_eq_true_eq, decide_eq_false_iff_not, Bool.and_eq_true, Bool.or_eq_true, beq_iff_eq, bne_iff_ne, ne_eq, Bool.not_eq_true', Bool.not_eq_false', Decidable.not_not] at hb25
       refine wpl_off rfl rfl rfl rfl <| wpl_off rfl rfl rfl rfl <| wpl_q (q_pure rfl) rfl <| wpl_q (q_pure rfl) rfl <| wpl_off rfl rfl rfl rfl <| wpl_off rfl rfl rfl rfl <| wpl_q (q_pure rfl) rfl <| wpl_q (q_pure rfl) rfl <| wpl_nil <| ex_then <| wpc_ret ?_
       refine ret1 (.inl rfl) rfl rfl ?_
       exact fun w h => ⟨congrArg (fun b => Ending.returned (Value.bool b)) zz13, h.below⟩
      ·
       try simp only [decide_eq_true_eq, decide_eq_false_iff_not, Bool.and_eq_true, Bool.or_eq_true, beq_iff_eq, bne_iff_ne, ne_eq, Bool.not_eq_true', Bool.not_eq_false', Decidable.not_not] at hb25
       refine wpl_on rfl rfl <| wpl_q (q_pure rfl) rfl <| wpl_on rfl rfl ?_
       refine wpl_q (q8_eql (b := (45 : UInt8)) rfl rfl) rfl ?_
       refine wpl_q (q_pure rfl) rfl <| wpl_q (q_pure rfl) rfl ?_
       refine wpl_bool2 29 27 rfl rfl (fun hb29 => ?_) (fun hb29 => ?_)
       ·
        try simp only [decide_eq_true_eq, decide_eq_false_iff_not, Bool.and_eq_true, Bool.or_eq_true, beq_iff_eq, bne_iff_ne, ne_eq, Bool.not_eq_true', Bool.not_eq_false', Decidable.not_not] at hb29
        refine wpl_off rfl rfl rfl rfl <| wpl_off rfl rfl rfl rfl <| wpl_q (q_pure rfl) rfl <| wpl_q (q_pure rfl) rfl <| wpl_nil <| ex_then <| wpc_ret ?_
        refine ret1 (.inl rfl) rfl rfl ?_
        exact fun w h => ⟨congrArg (fun b => Ending.returned (Value.bool b)) zz13, h.below⟩
       ·
        try simp only [decide_eq_true_eq, decide_eq_false_iff_not, Bool.and_eq_true, Bool.or_eq_true, beq_iff_eq, bne_iff_ne, ne_eq, Bool.not_eq_true', Bool.not_eq_false', Decidable.not_not] at hb29
        refine wpl_on rfl rfl <| wpl_q (q_pure rfl) rfl <| wpl_on rfl rfl ?_
        refine wpl_q (q8_eql (b := (95 : UInt8)) rfl rfl) rfl ?_
        refine wpl_q (q_pure rfl) rfl <| wpl_q (q_pure rfl) rfl <| wpl_nil <| ex_then <| wpc_ret ?_
        refine ret1 (.inl rfl) rfl rfl ?_
        exact fun w h => ⟨congrArg (fun b => Ending.returned (Value.bool b)) zz13, h.below⟩
     ·
      try simp only [decide_eq_true_eq, decide_eq_false_iff_not, Bool.and_eq_true, Bool.or_eq_true, beq_iff_eq, bne_iff_ne, ne_eq, Bool.not_eq_true', Bool.not_eq_false', Decidable.not_not] at hb20
      refine wpl_off rfl rfl rfl rfl <| wpl_off rfl rfl rfl rfl <| wpl_on rfl rfl <| wpl_q (q_pure rfl) rfl <| wpl_q (q_pure rfl) rfl <| wpl_q (q_pure rfl) rfl <| wpl_on rfl rfl <| wpl_q (q_pure rfl) rfl <| wpl_on rfl rfl ?_
      refine wpl_q (q8_eql (b := (45 : UInt8)) rfl rfl) rfl ?_
      refine wpl_q (q_pure rfl) rfl <| wpl_q (q_pure rfl) rfl ?_
      refine wpl_bool2 29 27 rfl rfl (fun hb29 => ?_) (fun hb29 => ?_)
      ·
       try simp only [decide_eq_true_eq, decide_eq_false_iff_not, Bool.and_eq_true, Bool.or_eq_true, beq_iff_eq, bne_iff_ne, ne_eq, Bool.not_eq_true', Bool.not_eq_false', Decidable.not_not] at hb29
       refine wpl_off rfl rfl rfl rfl <| wpl_off rfl rfl rfl rfl <| wpl_q (q_pure rfl) rfl <| wpl_q (q_pure rfl) rfl <| wpl_nil <| ex_then <| wpc_ret ?_
       refine ret1 (.inl rfl) rfl rfl ?_
       exact fun w h => ⟨congrArg (fun b => Ending.returned (Value.bool b)) zz13, h.below⟩
      ·
       try simp only [decide_eq_true_eq, decide_eq_false_iff_not, Bool.and_eq_true, Bool.or_eq_true, beq_iff_eq, bne_iff_ne, ne_eq, Bool.not_eq_true', Bool.not_eq_false', Decidable.not_not] at hb29
       refine wpl_on rfl rfl <| wpl_q (q_pure rfl) rfl <| wpl_on rfl rfl ?_
       refine wpl_q (q8_eql (b := (95 : UInt8)) rfl rfl) rfl ?_
       refine wpl_q (q_pure rfl) rfl <| wpl_q (q_pure rfl) rfl <| wpl_nil <| ex_then <| wpc_ret ?_
       refine ret1 (.inl rfl) rfl rfl ?_
       exact fun w h => ⟨congrArg (fun b => Ending.returned (Value.bool b)) zz13, h.below⟩
   ·
    try simp only [decide_eq_true_eq, decide_eq_false_iff_not, Bool.and_eq_true, Bool.or_eq_true, beq_iff_eq, bne_iff_ne, ne_eq, Bool.not_eq_true', Bool.not_eq_false', Decidable.not_not] at hb12
    refine wpl_off rfl rfl rfl rfl <| wpl_off rfl rfl rfl rfl <| wpl_on rfl rfl <| wpl_q (q_pure rfl) rfl <| wpl_q (q_pure rfl) rfl <| wpl_q (q_pure rfl) rfl <| wpl_on rfl rfl <| wpl_q (q_pure rfl) rfl <| wpl_on rfl rfl <| wpl_q (q_pure rfl) rfl <| wpl_on rfl rfl <| wpl_q (q_pure rfl) rfl ?_
    refine wpl_bool2 20 19 rfl rfl (fun hb20 => ?_) (fun hb20 => ?_)
    ·
     try simp only [decide_eq_true_eq, decide_eq_false_iff_not, Bool.and_eq_true, Bool.or_eq_true, beq_iff_eq, bne_iff_ne, ne_eq, Bool.not_eq_true', Bool.not_eq_false', Decidable.not_not] at hb20
     refine wpl_on rfl rfl <| wpl_q (q_pure rfl) rfl <| wpl_on rfl rfl <| wpl_q (q_pure rfl) rfl <| wpl_on rfl rfl <| wpl_q (q_pure rfl) rfl <| wpl_q (q_pure rfl) rfl <| wpl_q (q_pure rfl) rfl ?_
     refine wpl_bool2 25 22 rfl rfl (fun hb25 => ?_) (fun hb25 => ?_)
     ·
      try simp only [decide_eq_true_eq, decide_eq_false_iff_not, Bool.and_eq_true, Bool.or_eq_true, beq_iff_eq, bne_iff_ne, ne_eq, Bool.not_eq_true', Bool.not_eq_false', Decidable.not_not] at hb25
      refine wpl_off rfl rfl rfl rfl <| wpl_off rfl rfl rfl rfl <| wpl_q (q_pure rfl) rfl <| wpl_q (q_pure rfl) rfl <| wpl_off rfl rfl rfl rfl <| wpl_off rfl rfl rfl rfl <| wpl_q (q_pure rfl) rfl <| wpl_q (q_pure rfl) rfl <| wpl_nil <| ex_then <| wpc_ret ?_
      refine ret1 (.inl rfl) rfl rfl ?_
      exact fun w h => ⟨congrArg (fun b => Ending.returned (Value.bool b)) zz13, h.below⟩
     ·
      try simp only [decide_eq_true_eq, decide_eq_false_iff_not, Bool.and_eq_true, Bool.or_eq_true, beq_iff_eq, bne_iff_ne, ne_eq, Bool.not_eq_true', Bool.not_eq_false', Decidable.not_not] at hb25
      refine wpl_on rfl rfl <| wpl_q (q_pure rfl) rfl <| wpl_on rfl rfl ?_
      refine wpl_q (q8_eql (b := (45 : UInt8)) rfl rfl) rfl ?_
      refine wpl_q (q_pure rfl) rfl <| wpl_q (q_pure rfl) rfl ?_
      refine wpl_bool2 29 27 rfl rfl (fun hb29 => ?_) (fun hb29 => ?_)
      ·
       try simp only [decide_eq_true_eq, decide_eq_false_iff_not, Bool.and_eq_true, Bool.or_eq_true, beq_iff_eq, bne_iff_ne, ne_eq, Bool.not_eq_true', Bool.not_eq_false', Decidable.not_not] at hb29
       refine wpl_off rfl rfl rfl rfl <| wpl_off rfl rfl rfl rfl <| wpl_q (q_pure rfl) rfl <| wpl_q (q_pure rfl) rfl <| wpl_nil <| ex_then <| wpc_ret ?_
       refine ret1 (.inl rfl) rfl rfl ?_
       exact fun w h => ⟨congrArg (fun b => Ending.returned (Value.bool b)) zz13, h.below⟩
      ·
       try simp only [decide_eq_true_eq, decide_eq_false_iff_not, Bool.and_eq_true, Bool.or_eq_true, beq_iff_eq, bne_iff_ne, ne_eq, Bool.not_eq_true', Bool.not_eq_false', Decidable.not_not] at hb29
       refine wpl_on rfl rfl <| wpl_q (q_pure rfl) rfl <| wpl_on rfl rfl ?_
       refine wpl_q (q8_eql (b := (95 : UInt8)) rfl rfl) rfl ?_
       refine wpl_q (q_pure rfl) rfl <| wpl_q (q_pure rfl) rfl <| wpl_nil <| ex_then <| wpc_ret ?_
       refine ret1 (.inl rfl) rfl rfl ?_
       exact fun w h => ⟨congrArg (fun b => Ending.returned (Value.bool b)) zz13, h.below⟩
    ·
     try simp only [decide_eq_true_eq, decide_eq_false_iff_not, Bool.and_eq_true, Bool.or_eq_true, beq_iff_eq, bne_iff_ne, ne_eq, Bool.not_eq_true', Bool.not_eq_false', Decidable.not_not] at hb20
     refine wpl_off rfl rfl rfl rfl <| wpl_off rfl rfl rfl rfl <| wpl_on rfl rfl <| wpl_q (q_pure rfl) rfl <| wpl_q (q_pure rfl) rfl <| wpl_q (q_pure rfl) rfl <| wpl_on rfl rfl <| wpl_q (q_pure rfl) rfl <| wpl_on rfl rfl ?_
     refine wpl_q (q8_eql (b := (45 : UInt8)) rfl rfl) rfl ?_
     refine wpl_q (q_pure rfl) rfl <| wpl_q (q_pure rfl) rfl ?_
     refine wpl_bool2 29 27 rfl rfl (fun hb29 => ?_) (fun hb29 => ?_)
     ·
      try simp only [decide_eq_true_eq, decide_eq_false_iff_not, Bool.and_eq_true, Bool.or_eq_true, beq_iff_eq, bne_iff_ne, ne_eq, Bool.not_eq_true', Bool.not_eq_false', Decidable.not_not] at hb29
      refine wpl_off rfl rfl rfl rfl <| wpl_off rfl rfl rfl rfl <| wpl_q (q_pure rfl) rfl <| wpl_q (q_pure rfl) rfl <| wpl_nil <| ex_then <| wpc_ret ?_
      refine ret1 (.inl rfl) rfl rfl ?_
      exact fun w h => ⟨congrArg (fun b => Ending.returned (Value.bool b)) zz13, h.below⟩
     ·
      try simp only [decide_eq_true_eq, decide_eq_false_iff_not, Bool.and_eq_true, Bool.or_eq_true, beq_iff_eq, bne_iff_ne, ne_eq, Bool.not_eq_true', Bool.not_eq_false', Decidable.not_not] at hb29
      refine wpl_on rfl rfl <| wpl_q (q_pure rfl) rfl <| wpl_on rfl rfl ?_
      refine wpl_q (q8_eql (b := (95 : UInt8)) rfl rfl) rfl ?_
      refine wpl_q (q_pure rfl) rfl <| wpl_q (q_pure rfl) rfl <| wpl_nil <| ex_then <| wpc_ret ?_
      refine ret1 (.inl rfl) rfl rfl ?_
      exact fun w h => ⟨congrArg (fun b => Ending.returned (Value.bool b)) zz13, h.below⟩
end Go.Proofs.YtgnablliekgbgaaGreatDoor
namespace Go.Proofs.YtgnablliekgbgaaGreatDoor
open Go Go.PL Go.RowKit
theorem nameOk (xs : List UInt8) (w : World) (hxl : xs.length ≤ maxLen)  :
    Calls Tryz.prog 48 [str xs].toArray w (Pur w (.bool (nameF xs))) := by
  simp only [maxLen] at hxl
  refine enter (m := 25) (R := Mem w [] [] []) Tryz.func48 rfl rfl (Nat.le_of_ble_eq_true rfl) (Mem.start w) ?_
  refine wpc_seq <| wpc_region <| wpl_q (q_pure rfl) rfl <| wpl_nil <| ex_then <| wpc_seq <| wpc_region <| wpl_q (q_pure rfl) rfl <| wpl_nil <| ex_then <| wpc_seq <| wpc_seq ?_
  refine wpc_region <| wpl_q (q_pure rfl) rfl <| wpl_q (q_lenS Tryz.underlying9 rfl) rfl <| wpl_q (q_pure rfl) rfl <| wpl_nil <| ex_then <| wpc_block ?_
  refine wpc_loopc (ι := { x : Nat // (x ≤ xs.length) ∧ (∀ j, j < x → goodB (xs.getD j 0) = true) }) [(0, _), (3, _), (6, _)] (fun x Lc => (7, .int .i64 ((x.1 : Nat) : Int)) :: Lc) (fun x => Mem w [] [] []) (fun x => xs.length - x.1) ⟨0, ⟨Nat.zero_le _, fun j hj => zz16⟩⟩ zz10 ?_ ?_
  ·
   exact fun w h => h
  ·
   rintro ⟨i, ⟨hi0, hi1⟩⟩; try dsimp only
   have hi0 : i ≤ xs.length := hi0; have hi1 : ∀ j, j < i → goodB (xs.getD j 0) = true := hi1
   refine wpc_seq <| wpc_region <| wpl_q (q_pure rfl) rfl <| wpl_nil <| ex_then <| wpc_seq ?_
   refine wpc_cond rfl (fun hc8 => ?_) (fun hc8 => ?_)
   ·
    simp only [decide_eq_true_eq] at hc8
    have hil : i < xs.length := by omega
    refine wpc_skip <| ex_then <| wpc_seq <| wpc_block <| wpc_seq <| wpc_region <| wpl_q (q_pure rfl) rfl <| wpl_q (q_pure rfl) rfl <| wpl_nil <| ex_then <| wpc_seq <| wpc_region ?_
    refine wpl_q (q_pure rfl) rfl <| wpl_q (q_pure rfl) rfl <| wpl_q (q_pure rfl) rfl ?_
    refine wpl_q (q_strIdx Tryz.underlying9 rfl rfl zz1) rfl ?_
    refine wpl_t (t_purV rfl Tryz.hb78 rfl fun w h => good1 (xs.getD i 0) w) rfl (fun b14 => ?_)
    refine wpl_q (q_pure rfl) rfl <| wpl_nil <| ex_then ?_
    refine wpc_cond rfl (fun hc15 => ?_) (fun hc15 => ?_)
    ·
     have hg : goodB (xs.getD i 0) = false := by simpa using hc15
     refine wpc_seq <| wpc_region <| wpl_q (q_pure rfl) rfl <| wpl_nil <| ex_then <| wpc_ret ?_
     refine ex_block_ret ?_
     refine ex_then_ret ?_
     refine ex_then_ret ?_
     refine ex_block_ret ?_
     refine ex_then_ret ?_
     refine ret1 (.inl rfl) rfl rfl ?_
     exact fun w h => ⟨by rw [show nameF xs = false by exact name_bad hil hg], h.below⟩
    ·
     have hg : goodB (xs.getD i 0) = true := by simpa using hc15
     refine wpc_skip <| ex_block <| ex_then <| wpc_region ?_
     refine wpl_q (q_addN (b := 1) rfl rfl zz1) rfl ?_
     refine wpl_q (q_pure rfl) rfl <| wpl_nil ?_
     refine ex_again ⟨i + 1, ⟨by show i + 1 ≤ xs.length; omega, fun j hj => by rcases Nat.lt_or_ge j i with h | h; exact hi1 j h; obtain rfl : j = i := (by have hj : j < i + 1 := hj; omega); exact hg⟩⟩ ?_ ?_ ?_
     ·
      exact zz10
     ·
      exact fun w h => by first | exact h | exact h.sub SubC.h SubC.h | exact h.sub zz6 zz6
     ·
      (show xs.length - (i + 1) < xs.length - i); omega
   ·
    simp only [decide_eq_false_iff_not] at hc8
    obtain rfl : i = xs.length := by omega
    refine wpc_exit ?_
    refine ex_then_exit ?_
    refine ex_then_exit ?_
    refine ex_block_hit ?_
    refine ex_then <| wpc_seq <| wpc_region <| wpl_q (q_pure rfl) rfl <| wpl_q (q_lenS Tryz.underlying9 rfl) rfl <| wpl_q (q_pure rfl) rfl <| wpl_q (q_pure rfl) rfl ?_
    refine wpl_bool2 20 19 rfl rfl (fun hb20 => ?_) (fun hb20 => ?_)
    ·
     have hl1 : 1 ≤ xs.length := by have := of_decide_eq_true hb20; omega
     refine wpl_on rfl rfl <| wpl_q (q_pure rfl) rfl <| wpl_on rfl rfl <| wpl_q (q_lenS Tryz.underlying9 rfl) rfl <| wpl_on rfl rfl <| wpl_q (q_pure rfl) rfl <| wpl_q (q_pure rfl) rfl <| wpl_q (q_pure rfl) rfl <| wpl_nil <| ex_then <| wpc_ret ?_
     refine ret1 (.inl rfl) rfl rfl ?_
     exact fun w h => ⟨by rw [name_all hi1]; first | (rw [decide_eq_true hl1, Bool.true_and]; exact congrArg (fun b => Ending.returned (Value.bool b)) (decide_eq_decide.2 zz16)) | (rw [decide_eq_false hl0]; rfl), h.below⟩
    ·
     have hl0 : ¬ 1 ≤ xs.length := by have := of_decide_eq_false hb20; omega
     refine wpl_off rfl rfl rfl rfl <| wpl_off rfl rfl rfl rfl <| wpl_off rfl rfl rfl rfl <| wpl_q (q_pure rfl) rfl <| wpl_q (q_pure rfl) rfl <| wpl_nil <| ex_then <| wpc_ret ?_
     refine ret1 (.inl rfl) rfl rfl ?_
     exact fun w h => ⟨by rw [name_all hi1]; first | (rw [decide_eq_true hl1, Bool.true_and]; exact congrArg (fun b => Ending.returned (Value.bool b)) (decide_eq_decide.2 zz16)) | (rw [decide_eq_false hl0]; rfl), h.below⟩
theorem refName (xs : List UInt8) (w : World) (hxl : xs.length ≤ maxLen)  :
    Calls Tryz.prog 34 [str xs].toArray w (Pur w (.bool (nameF xs))) := by
  simp only [maxLen] at hxl
  refine enter (m := 53) (R := Mem w [] [] []) Tryz.func34 rfl rfl (Nat.le_of_ble_eq_true rfl) (Mem.start w) ?_
  refine wpc_seq <| wpc_region <| wpl_q (q_pure rfl) rfl <| wpl_nil <| ex_then <| wpc_seq <| wpc_seq <| wpc_region <| wpl_q (q_pure rfl) rfl <| wpl_q (q_lenS Tryz.underlying9 rfl) rfl <| wpl_q (q_pure rfl) rfl <| wpl_q (q_pure rfl) rfl ?_
  refine wpl_bool2 8 7 rfl rfl (fun hb8 => ?_) (fun hb8 => ?_)
  ·
   have hlen : xs.length = 0 ∨ 40 < xs.length := .inl (by have h := hb8; rw [beq_iff_eq] at h; omega)
   refine wpl_off rfl rfl rfl rfl <| wpl_off rfl rfl rfl rfl <| wpl_off rfl rfl rfl rfl <| wpl_q (q_pure rfl) rfl <| wpl_nil <| ex_then ?_
   refine wpc_cond_t rfl ?_
   refine wpc_seq <| wpc_region <| wpl_q (q_pure rfl) rfl <| wpl_nil <| ex_then <| wpc_ret ?_
   refine ex_then_ret ?_
   refine ret1 (.inl rfl) rfl rfl ?_
   exact fun w h => ⟨by rw [show nameF xs = false by exact name_len hlen], h.below⟩
  ·
   have hne : ¬ xs.length = 0 := by have h := hb8; rw [beq_eq_false_iff_ne] at h; omega
   refine wpl_on rfl rfl <| wpl_q (q_pure rfl) rfl <| wpl_on rfl rfl <| wpl_q (q_lenS Tryz.underlying9 rfl) rfl <| wpl_on rfl rfl <| wpl_q (q_pure rfl) rfl <| wpl_q (q_pure rfl) rfl <| wpl_nil <| ex_then ?_
   refine wpc_cond rfl (fun hc12 => ?_) (fun hc12 => ?_)
   ·
    have hlen : xs.length = 0 ∨ 40 < xs.length := .inr (by have := of_decide_eq_true hc12; omega)
    refine wpc_seq <| wpc_region <| wpl_q (q_pure rfl) rfl <| wpl_nil <| ex_then <| wpc_ret ?_
    refine ex_then_ret ?_
    refine ret1 (.inl rfl) rfl rfl ?_
    exact fun w h => ⟨by rw [show nameF xs = false by exact name_len hlen], h.below⟩
   ·
    have hlen : 1 ≤ xs.length ∧ xs.length ≤ 40 := by have := of_decide_eq_false hc12; omega
    refine wpc_skip <| ex_then <| wpc_seq <| wpc_seq <| wpc_region <| wpl_q (q_pure rfl) rfl <| wpl_nil <| ex_then <| wpc_block ?_
    refine wpc_loopc (ι := { x : Nat // (x ≤ xs.length) ∧ (∀ j, j < x → goodB (xs.getD j 0) = true) }) [(0, _)] (fun x Lc => (3, .int .i64 ((x.1 : Nat) : Int)) :: Lc) (fun x => Mem w [] [] []) (fun x => xs.length - x.1) ⟨0, ⟨Nat.zero_le _, fun j hj => zz16⟩⟩ zz10 ?_ ?_
    ·
     exact fun w h => h
    ·
     rintro ⟨i, ⟨hi0, hi1⟩⟩; try dsimp only
     have hi0 : i ≤ xs.length := hi0; have hi1 : ∀ j, j < i → goodB (xs.getD j 0) = true := hi1
     refine wpc_seq <| wpc_seq <| wpc_region <| wpl_q (q_pure rfl) rfl <| wpl_q (q_pure rfl) rfl <| wpl_q (q_lenS Tryz.underlying9 rfl) rfl <| wpl_q (q_pure rfl) rfl <| wpl_nil <| ex_then ?_
     refine wpc_cond rfl (fun hc16 => ?_) (fun hc16 => ?_)
     ·
      simp only [decide_eq_true_eq] at hc16
      have hil : i < xs.length := by omega
      refine wpc_skip <| ex_then <| wpc_seq <| wpc_block <| wpc_seq <| wpc_region <| wpl_q (q_pure rfl) rfl <| wpl_q (q_pure rfl) rfl ?_
      refine wpl_q (q_strIdx Tryz.underlying9 rfl rfl zz1) rfl ?_
      refine wpl_q (q_pure rfl) rfl <| wpl_nil <| ex_then ?_
      refine wpc_cutc ({ x : Unit // True }) [(0, str xs), (3, .int .i64 ((i : Nat) : Int))] (fun x Lc => (52, .bool (!goodB (xs.getD i 0))) :: Lc) (fun x => Mem w [] [] []) ?_ ?_
      ·
       refine wpc_region <| wpl_q (q_pure rfl) rfl <| wpl_q (q_pure rfl) rfl <| wpl_q (q_pure rfl) rfl ?_
       refine wpl_bool2 24 23 rfl rfl (fun hb24 => ?_) (fun hb24 => ?_)
       ·
        try simp only [decide_eq_true_eq, decide_eq_false_iff_not, Bool.and_eq_true, Bool.or_eq_true, beq_iff_eq, bne_iff_ne, ne_eq, Bool.not_eq_true', Bool.not_eq_false', Decidable.not_not] at hb24
        refine wpl_on rfl rfl <| wpl_q (q_pure rfl) rfl <| wpl_on rfl rfl <| wpl_q (q_pure rfl) rfl <| wpl_q (q_pure rfl) rfl <| wpl_q (q_pure rfl) rfl ?_
        refine wpl_bool2 28 26 rfl rfl (fun hb28 => ?_) (fun hb28 => ?_)
        ·
         try simp only [decide_eq_true_eq, decide_eq_false_iff_not, Bool.and_eq_true, Bool.or_eq_true, beq_iff_eq, bne_iff_ne, ne_eq, Bool.not_eq_true', Bool.not_eq_false', Decidable.not_not] at hb28
         refine wpl_off rfl rfl rfl rfl <| wpl_off rfl rfl rfl rfl <| wpl_off rfl rfl rfl rfl <| wpl_off rfl rfl rfl rfl <| wpl_off rfl rfl rfl rfl <| wpl_off rfl rfl rfl rfl <| wpl_q (q_pure rfl) rfl <| wpl_q (q_pure rfl) rfl <| wpl_off rfl rfl rfl rfl <| wpl_off rfl rfl rfl rfl <| wpl_off rfl rfl rfl rfl <| wpl_off rfl rfl rfl rfl ?_
         refine wpl_off rfl rfl rfl rfl <| wpl_off rfl rfl rfl rfl <| wpl_q (q_pure rfl) rfl <| wpl_q (q_pure rfl) rfl <| wpl_off rfl rfl rfl rfl <| wpl_off rfl rfl rfl rfl <| wpl_q (q_pure rfl) rfl <| wpl_q (q_pure rfl) rfl <| wpl_off rfl rfl rfl rfl <| wpl_off rfl rfl rfl rfl <| wpl_q (q_pure rfl) rfl <| wpl_q (q_pure rfl) rfl ?_
         refine wpl_re 52 rfl (congrArg Value.bool (show _ = !goodB (xs.getD i 0) by
           (try simp only [e45, e95] at *)
           first
           | (rw [show goodB (xs.getD i 0) = true from (goodB_iff _).2 zz16]; done)
           | (rw [show goodB (xs.getD i 0) = true from (goodB_iff _).2 zz16]; rfl)
           | (rw [show goodB (xs.getD i 0) = decide ((xs.getD i 0).toNat = 95) from zz24]))) ?_
         refine wpl_nil ?_
         refine ex_mid ⟨(), trivial⟩ ?_ ?_
         ·
          exact zz10
         ·
          exact fun w h => by first | exact h | exact h.sub SubC.h SubC.h | exact h.sub zz6 zz6
        ·
         try simp only [decide_eq_true_eq, decide_eq_false_iff_not, Bool.and_eq_true, Bool.or_eq_true, beq_iff_eq, bne_iff_ne, ne_eq, Bool.not_eq_true', Bool.not_eq_false', Decidable.not_not] at hb28
         refine wpl_on rfl rfl <| wpl_q (q_pure rfl) rfl <| wpl_on rfl rfl <| wpl_q (q_pure rfl) rfl <| wpl_on rfl rfl <| wpl_q (q_pure rfl) rfl ?_
         refine wpl_bool2 31 30 rfl rfl (fun hb31 => ?_) (fun hb31 => ?_)
         ·
          try simp only [decide_eq_true_eq, decide_eq_false_iff_not, Bool.and_eq_true, Bool.or_eq_true, beq_iff_eq, bne_iff_ne, ne_eq, Bool.not_eq_true', Bool.not_eq_false', Decidable.not_not] at hb31
          refine wpl_on rfl rfl <| wpl_q (q_pure rfl) rfl <| wpl_on rfl rfl <| wpl_q (q_pure rfl) rfl <| wpl_on rfl rfl <| wpl_q (q_pure rfl) rfl <| wpl_q (q_pure rfl) rfl <| wpl_q (q_pure rfl) rfl ?_
          refine wpl_bool2 36 33 rfl rfl (fun hb36 => ?_) (fun hb36 => ?_)
          ·
           try simp only [decide_eq_true_eq, decide_eq_false_iff_not, Bool.and_eq_true, Bool.or_eq_true, beq_iff_eq, bne_iff_ne, ne_eq, Bool.not_eq_true', Bool.not_eq_false', Decidable.not_not] at hb36
           refine wpl_off rfl rfl rfl rfl <| wpl_off rfl rfl rfl rfl <| wpl_off rfl rfl rfl rfl <| wpl_off rfl rfl rfl rfl <| wpl_off rfl rfl rfl rfl <| wpl_off rfl rfl rfl rfl <| wpl_q (q_pure rfl) rfl <| wpl_q (q_pure rfl) rfl <| wpl_off rfl rfl rfl rfl <| wpl_off rfl rfl rfl rfl <| wpl_q (q_pure rfl) rfl <| wpl_q (q_pure rfl) rfl ?_
           refine wpl_off rfl rfl rfl rfl <| wpl_off rfl rfl rfl rfl <| wpl_q (q_pure rfl) rfl <| wpl_q (q_pure rfl) rfl ?_
           refine wpl_re 52 rfl (congrArg Value.bool (show _ = !goodB (xs.getD i 0) by
             (try simp only [e45, e95] at *)
             first
             | (rw [show goodB (xs.getD i 0) = true from (goodB_iff _).2 zz16]; done)
             | (rw [show goodB (xs.getD i 0) = true from (goodB_iff _).2 zz16]; rfl)
             | (rw [show goodB (xs.getD i 0) = decide ((xs.getD i 0).toNat = 95) from zz24]))) ?_
           refine wpl_nil ?_
           refine ex_mid ⟨(), trivial⟩ ?_ ?_
           ·
            exact zz10
           ·
            exact fun w h => by first | exact h | exact h.sub SubC.h SubC.h | exact h.sub zz6 zz6
          ·
           try simp only [decide_eq_true_eq, decide_eq_false_iff_not, Bool.and_eq_true, Bool.or_eq_true, beq_iff_eq, bne_iff_ne, ne_eq, Bool.not_eq_true', Bool.not_eq_false', Decidable.not_not] at hb36
           refine wpl_on rfl rfl <| wpl_q (q_pure rfl) rfl <| wpl_on rfl rfl <| wpl_q (q_pure rfl) rfl <| wpl_on rfl rfl <| wpl_q (q_pure rfl) rfl ?_
           refine wpl_bool2 39 38 rfl rfl (fun hb39 => ?_) (fun hb39 => ?_)
           ·
            try simp only [decide_eq_true_eq, decide_eq_false_iff_not, Bool.and_eq_true, Bool.or_eq_true, beq_iff_eq, bne_iff_ne, ne_eq, Bool.not_eq_true', Bool.not_eq_false', Decidable.not_not] at hb39
            refine wpl_on rfl rfl <| wpl_q (q_pure rfl) rfl <| wpl_on rfl rfl <| wpl_q (q_pure rfl) rfl <| wpl_on rfl rfl <| wpl_q (q_pure rfl) rfl <| wpl_q (q_pure rfl) rfl <| wpl_q (q_pure rfl) rfl ?_
            refine wpl_bool2 44 41 rfl rfl (fun hb44 => ?_) (fun hb44 => ?_)
            ·
             try simp only [decide_eq_true_eq, decide_eq_false_iff_not, Bool.and_eq_true, Bool.or_eq_true, beq_iff_eq, bne_iff_ne, ne_eq, Bool.not_eq_true', Bool.not_eq_false', Decidable.not_not] at hb44
             refine wpl_off rfl rfl rfl rfl <| wpl_off rfl rfl rfl rfl <| wpl_q (q_pure rfl) rfl <| wpl_q (q_pure rfl) rfl <| wpl_off rfl rfl rfl rfl <| wpl_off rfl rfl rfl rfl <| wpl_q (q_pure rfl) rfl <| wpl_q (q_pure rfl) rfl ?_
             refine wpl_re 52 rfl (congrArg Value.bool (show _ = !goodB (xs.getD i 0) by
               (try simp only [e45, e95] at *)
               first
               | (rw [show goodB (xs.getD i 0) = true from (goodB_iff _).2 zz16]; done)
               | (rw [show goodB (xs.getD i 0) = true from (goodB_iff _).2 zz16]; rfl)
               | (rw [show goodB (xs.getD i 0) = decide ((xs.getD i 0).toNat = 95) from zz24]))) ?_
             refine wpl_nil ?_
             refine ex_mid ⟨(), trivial⟩ ?_ ?_
             ·
              exact zz10
             ·
              exact fun w h => by first | exact h | exact h.sub SubC.h SubC.h | exact h.sub zz6 zz6
            ·
             try simp only [decide_eq_true_eq, decide_eq_false_iff_not, Bool.and_eq_true, Bool.or_eq_true, beq_iff_eq, bne_iff_ne, ne_eq, Bool.not_eq_true', Bool.not_eq_false', Decidable.not_not] at hb44
             refine wpl_on rfl rfl <| wpl_q (q_pure rfl) rfl <| wpl_on rfl rfl ?_
             refine wpl_q (q8_eql (b := (45 : UInt8)) rfl rfl) rfl ?_
             refine wpl_q (q_pure rfl) rfl <| wpl_q (q_pure rfl) rfl ?_
             refine wpl_bool2 48 46 rfl rfl (fun hb48 => ?_) (fun hb48 => ?_)
             ·
              try simp only [decide_eq_true_eq, decide_eq_false_iff_not, Bool.and_eq_true, Bool.or_eq_true, beq_iff_eq, bne_iff_ne, ne_eq, Bool.not_eq_true', Bool.not_eq_false', Decidable.not_not] at hb48
              refine wpl_off rfl rfl rfl rfl <| wpl_off rfl rfl rfl rfl <| wpl_q (q_pure rfl) rfl <| wpl_q (q_pure rfl) rfl ?_
              refine wpl_re 52 rfl (congrArg Value.bool (show _ = !goodB (xs.getD i 0) by
                (try simp only [e45, e95] at *)
                first
                | (rw [show goodB (xs.getD i 0) = true from (goodB_iff _).2 zz16]; done)
                | (rw [show goodB (xs.getD i 0) = true from (goodB_iff _).2 zz16]; rfl)
                | (rw [show goodB (xs.getD i 0) = decide ((xs.getD i 0).toNat = 95) from zz24]))) ?_
              refine wpl_nil ?_
              refine ex_mid ⟨(), trivial⟩ ?_ ?_
              ·
               exact zz10
              ·
               exact fun w h => by first | exact h | exact h.sub SubC.h SubC.h | exact h.sub zz6 zz6
             ·
              try simp only [decide_eq_true_eq, decide_eq_false_iff_not, Bool.and_eq_true, Bool.or_eq_true, beq_iff_eq, bne_iff_ne, ne_eq, Bool.not_eq_true', Bool.not_eq_false', Decidable.not_not] at hb48
              refine wpl_on rfl rfl <| wpl_q (q_pure rfl) rfl <| wpl_on rfl rfl ?_
              refine wpl_q (q8_eql (b := (95 : UInt8)) rfl rfl) rfl ?_
              refine wpl_q (q_pure rfl) rfl <| wpl_q (q_pure rfl) rfl ?_
              refine wpl_re 52 rfl (congrArg Value.bool (show _ = !goodB (xs.getD i 0) by
                (try simp only [e45, e95] at *)
                first
                | (rw [show goodB (xs.getD i 0) = true from (goodB_iff _).2 zz16]; done)
                | (rw [show goodB (xs.getD i 0) = true from (goodB_iff _).2 zz16]; rfl)
                | (rw [show goodB (xs.getD i 0) = decide ((xs.getD i 0).toNat = 95) from zz24]))) ?_
              refine wpl_nil ?_
              refine ex_mid ⟨(), trivial⟩ ?_ ?_
              ·
               exact zz10
              ·
               exact fun w h => by first | exact h | exact h.sub SubC.h SubC.h | exact h.sub zz6 zz6
           ·
            try simp only [decide_eq_true_eq, decide_eq_false_iff_not, Bool.and_eq_true, Bool.or_eq_true, beq_iff_eq, bne_iff_ne, ne_eq, Bool.not_eq_true', Bool.not_eq_false', Decidable.not_not] at hb39
            refine wpl_off rfl rfl rfl rfl <| wpl_off rfl rfl rfl rfl <| wpl_on rfl rfl <| wpl_q (q_pure rfl) rfl <| wpl_q (q_pure rfl) rfl <| wpl_q (q_pure rfl) rfl <| wpl_on rfl rfl <| wpl_q (q_pure rfl) rfl <| wpl_on rfl rfl ?_
            refine wpl_q (q8_eql (b := (45 : UInt8)) rfl rfl) rfl ?_
            refine wpl_q (q_pure rfl) rfl <| wpl_q (q_pure rfl) rfl ?_
            refine wpl_bool2 48 46 rfl rfl (fun hb48 => ?_) (fun hb48 => ?_)
            ·
             try simp only [decide_eq_true_eq, decide_eq_false_iff_not, Bool.and_eq_true, Bool.or_eq_true, beq_iff_eq, bne_iff_ne, ne_eq, Bool.not_eq_true', Bool.not_eq_false', Decidable.not_not] at hb48
             refine wpl_off rfl rfl rfl rfl <| wpl_off rfl rfl rfl rfl <| wpl_q (q_pure rfl) rfl <| wpl_q (q_pure rfl) rfl ?_
             refine wpl_re 52 rfl (congrArg Value.bool (show _ = !goodB (xs.getD i 0) by
               (try simp only [e45, e95] at *)
               first
               | (rw [show goodB (xs.getD i 0) = true from (goodB_iff _).2 zz16]; done)
               | (rw [show goodB (xs.getD i 0) = true from (goodB_iff _).2 zz16]; rfl)
               | (rw [show goodB (xs.getD i 0) = decide ((xs.getD i 0).toNat = 95) from zz24]))) ?_
             refine wpl_nil ?_
             refine ex_mid ⟨(), trivial⟩ ?_ ?_
             ·
              exact zz10
             ·
              exact fun w h => by first | exact h | exact h.sub SubC.h SubC.h | exact h.sub zz6 zz6
            ·
             try simp only [decide_eq_true_eq, decide_eq_false_iff_not, Bool.and_eq_true, Bool.or_eq_true, beq_iff_eq, bne_iff_ne, ne_eq, Bool.not_eq_true', Bool.not_eq_false', Decidable.not_not] at hb48
             refine wpl_on rfl rfl <| wpl_q (q_pure rfl) rfl <| wpl_on rfl rfl ?_
             refine wpl_q (q8_eql (b := (95 : UInt8)) rfl rfl) rfl ?_
             refine wpl_q (q_pure rfl) rfl <| wpl_q (q_pure rfl) rfl ?_
             refine wpl_re 52 rfl (congrArg Value.bool (show _ = !goodB (xs.getD i 0) by
               (try simp only [e45, e95] at *)
               first
               | (rw [show goodB (xs.getD i 0) = true from (goodB_iff _).2 zz16]; done)
               | (rw [show goodB (xs.getD i 0) = true from (goodB_iff _).2 zz16]; rfl)
               | (rw [show goodB (xs.getD i 0) = decide ((xs.getD i 0).toNat = 95) from zz24]))) ?_
             refine wpl_nil ?_
             refine ex_mid ⟨(), trivial⟩ ?_ ?_
             ·
              exact zz10
             ·
              exact fun w h => by first | exact h | exact h.sub SubC.h SubC.h | exact h.sub zz6 zz6
         ·
          try simp only [decide_eq_true_eq, decide_eq_false_iff_not, Bool.and_eq_true, Bool.or_eq_true, beq_iff_eq, bne_iff_ne, ne_eq, Bool.not_eq_true', Bool.not_eq_false', Decidable.not_not] at hb31
          refine wpl_off rfl rfl rfl rfl <| wpl_off rfl rfl rfl rfl <| wpl_on rfl rfl <| wpl_q (q_pure rfl) rfl <| wpl_q (q_pure rfl) rfl <| wpl_q (q_pure rfl) rfl <| wpl_on rfl rfl <| wpl_q (q_pure rfl) rfl <| wpl_on rfl rfl <| wpl_q (q_pure rfl) rfl <| wpl_on rfl rfl <| wpl_q (q_pure rfl) rfl ?_
          refine wpl_bool2 39 38 rfl rfl (fun hb39 => ?_) (fun hb39 => ?_)
          ·
           try simp only [decide_eq_true_eq, decide_eq_false_iff_not, Bool.and_eq_true, Bool.or_eq_true, beq_iff_eq, bne_iff_ne, ne_eq, Bool.not_eq_true', Bool.not_eq_false', Decidable.not_not] at hb39
           refine wpl_on rfl rfl <| wpl_q (q_pure rfl) rfl <| wpl_on rfl rfl <| wpl_q (q_pure rfl) rfl <| wpl_on rfl rfl <| wpl_q (q_pure rfl) rfl <| wpl_q (q_pure rfl) rfl <| wpl_q (q_pure rfl) rfl ?_
           refine wpl_bool2 44 41 rfl rfl (fun hb44 => ?_) (fun hb44 => ?_)
           ·
            try simp only [decide_eq_true_eq, decide_eq_false_iff_not, Bool.and_eq_true, Bool.or_eq_true, beq_iff_eq, bne_iff_ne, ne_eq, Bool.not_eq_true', Bool.not_eq_false', Decidable.not_not] at hb44
            refine wpl_off rfl rfl rfl rfl <| wpl_off rfl rfl rfl rfl <| wpl_q (q_pure rfl) rfl <| wpl_q (q_pure rfl) rfl <| wpl_off rfl rfl rfl rfl <| wpl_off rfl rfl rfl rfl <| wpl_q (q_pure rfl) rfl <| wpl_q (q_pure rfl) rfl ?_
            refine wpl_re 52 rfl (congrArg Value.bool (show _ = !goodB (xs.getD i 0) by
              (try simp only [e45, e95] at *)
              first
              | (rw [show goodB (xs.getD i 0) = true from (goodB_iff _).2 zz16]; done)
              | (rw [show goodB (xs.getD i 0) = true from (goodB_iff _).2 zz16]; rfl)
              | (rw [show goodB (xs.getD i 0) = decide ((xs.getD i 0).toNat = 95) from zz24]))) ?_
            refine wpl_nil ?_
            refine ex_mid ⟨(), trivial⟩ ?_ ?_
            ·
             exact zz10
            ·
             exact fun w h => by first | exact h | exact h.sub SubC.h SubC.h | exact h.sub zz6 zz6
           ·
            try simp only [decide_eq_true_eq, decide_eq_false_iff_not, Bool.and_eq_true, Bool.or_eq_true, beq_iff_eq, bne_iff_ne, ne_eq, Bool.not_eq_true', Bool.not_eq_false', Decidable.not_not] at hb44
            refine wpl_on rfl rfl <| wpl_q (q_pure rfl) rfl <| wpl_on rfl rfl ?_
            refine wpl_q (q8_eql (b := (45 : UInt8)) rfl rfl) rfl ?_
            refine wpl_q (q_pure rfl) rfl <| wpl_q (q_pure rfl) rfl ?_
            refine wpl_bool2 48 46 rfl rfl (fun hb48 => ?_) (fun hb48 => ?_)
            ·
             try simp only [decide_eq_true_eq, decide_eq_false_iff_not, Bool.and_eq_true, Bool.or_eq_true, beq_iff_eq, bne_iff_ne, ne_eq, Bool.not_eq_true', Bool.not_eq_false', Decidable.not_not] at hb48
             refine wpl_off rfl rfl rfl rfl <| wpl_off rfl rfl rfl rfl <| wpl_q (q_pure rfl) rfl <| wpl_q (q_pure rfl) rfl ?_
             refine wpl_re 52 rfl (congrArg Value.bool (show _ = !goodB (xs.getD i 0) by
               (try simp only [e45, e95] at *)
               first
               | (rw [show goodB (xs.getD i 0) = true from (goodB_iff _).2 zz16]; done)
               | (rw [show goodB (xs.getD i 0) = true from (goodB_iff _).2 zz16]; rfl)
               | (rw [show goodB (xs.getD i 0) = decide ((xs.getD i 0).toNat = 95) from zz24]))) ?_
             refine wpl_nil ?_
             refine ex_mid ⟨(), trivial⟩ ?_ ?_
             ·
              exact zz10
             ·
              exact fun w h => by first | exact h | exact h.sub SubC.h SubC.h | exact h.sub zz6 zz6
            ·
             try simp only [decide_eq_true_eq, decide_eq_false_iff_not, Bool.and_eq_true, Bool.or_eq_true, beq_iff_eq, bne_iff_ne, ne_eq, Bool.not_eq_true', Bool.not_eq_false', Decidable.not_not] at hb48
             refine wpl_on rfl rfl <| wpl_q (q_pure rfl) rfl <| wpl_on rfl rfl ?_
             refine wpl_q (q8_eql (b := (95 : UInt8)) rfl rfl) rfl ?_
             refine wpl_q (q_pure rfl) rfl <| wpl_q (q_pure rfl) rfl ?_
             refine wpl_re 52 rfl (congrArg Value.bool (show _ = !goodB (xs.getD i 0) by
               (try simp only [e45, e95] at *)
               first
               | (rw [show goodB (xs.getD i 0) = true from (goodB_iff _).2 zz16]; done)
               | (rw [show goodB (xs.getD i 0) = true from (goodB_iff _).2 zz16]; rfl)
               | (rw [show goodB (xs.getD i 0) = decide ((xs.getD i 0).toNat = 95) from zz24]))) ?_
             refine wpl_nil ?_
             refine ex_mid ⟨(), trivial⟩ ?_ ?_
             ·
              exact zz10
             ·
              exact fun w h => by first | exact h | exact h.sub SubC.h SubC.h | exact h.sub zz6 zz6
          ·
           try simp only [decide_eq_true_eq, decide_eq_false_iff_not, Bool.and_eq_true, Bool.or_eq_true, beq_iff_eq, bne_iff_ne, ne_eq, Bool.not_eq_true', Bool.not_eq_false', Decidable.not_not] at hb39
           refine wpl_off rfl rfl rfl rfl <| wpl_off rfl rfl rfl rfl <| wpl_on rfl rfl <| wpl_q (q_pure rfl) rfl <| wpl_q (q_pure rfl) rfl <| wpl_q (q_pure rfl) rfl <| wpl_on rfl rfl <| wpl_q (q_pure rfl) rfl <| wpl_on rfl rfl ?_
           refine wpl_q (q8_eql (b := (45 : UInt8)) rfl rfl) rfl ?_
           refine wpl_q (q_pure rfl) rfl <| wpl_q (q_pure rfl) rfl ?_
           refine wpl_bool2 48 46 rfl rfl (fun hb48 => ?_) (fun hb48 => ?_)
           ·
            try simp only [decide_eq_true_eq, decide_eq_false_iff_not, Bool.and_eq_true, Bool.or_eq_true, beq_iff_eq, bne_iff_ne, ne_eq, Bool.not_eq_true', Bool.not_eq_false', Decidable.not_not] at hb48
            refine wpl_off rfl rfl rfl rfl <| wpl_off rfl rfl rfl rfl <| wpl_q (q_pure rfl) rfl <| wpl_q (q_pure rfl) rfl ?_
            refine wpl_re 52 rfl (congrArg Value.bool (show _ = !goodB (xs.getD i 0) by
              (try simp only [e45, e95] at *)
              first
              | (rw [show goodB (xs.getD i 0) = true from (goodB_iff _).2 zz16]; done)
              | (rw [show goodB (xs.getD i 0) = true from (goodB_iff _).2 zz16]; rfl)
              | (rw [show goodB (xs.getD i 0) = decide ((xs.getD i 0).toNat = 95) from zz24]))) ?_
            refine wpl_nil ?_
            refine ex_mid ⟨(), trivial⟩ ?_ ?_
            ·
             exact zz10
            ·
             exact fun w h => by first | exact h | exact h.sub SubC.h SubC.h | exact h.sub zz6 zz6
           ·
            try simp only [decide_eq_true_eq, decide_eq_false_iff_not, Bool.and_eq_true, Bool.or_eq_true, beq_iff_eq, bne_iff_ne, ne_eq, Bool.not_eq_true', Bool.not_eq_false', Decidable.not_not] at hb48
            refine wpl_on rfl rfl <| wpl_q (q_pure rfl) rfl <| wpl_on rfl rfl ?_
            refine wpl_q (q8_eql (b := (95 : UInt8)) rfl rfl) rfl ?_
            refine wpl_q (q_pure rfl) rfl <| wpl_q (q_pure rfl) rfl ?_
            refine wpl_re 52 rfl (congrArg Value.bool (show _ = !goodB (xs.getD i 0) by
              (try simp only [e45, e95] at *)
              first
              | (rw [show goodB (xs.getD i 0) = true from (goodB_iff _).2 zz16]; done)
              | (rw [show goodB (xs.getD i 0) = true from (goodB_iff _).2 zz16]; rfl)
              | (rw [show goodB (xs.getD i 0) = decide ((xs.getD i 0).toNat = 95) from zz24]))) ?_
            refine wpl_nil ?_
            refine ex_mid ⟨(), trivial⟩ ?_ ?_
            ·
             exact zz10
            ·
             exact fun w h => by first | exact h | exact h.sub SubC.h SubC.h | exact h.sub zz6 zz6
       ·
        try simp only [decide_eq_true_eq, decide_eq_false_iff_not, Bool.and_eq_true, Bool.or_eq_true, beq_iff_eq, bne_iff_ne, ne_eq, Bool.not_eq_true', Bool.not_eq_false', Decidable.not_not] at hb24
        refine wpl_off rfl rfl rfl rfl <| wpl_off rfl rfl rfl rfl <| wpl_q (q_pure rfl) rfl <| wpl_q (q_pure rfl) rfl <| wpl_on rfl rfl <| wpl_q (q_pure rfl) rfl <| wpl_on rfl rfl <| wpl_q (q_pure rfl) rfl <| wpl_on rfl rfl <| wpl_q (q_pure rfl) rfl ?_
        refine wpl_bool2 31 30 rfl rfl (fun hb31 => ?_) (fun hb31 => ?_)
        ·
         try simp only [decide_eq_true_eq, decide_eq_false_iff_not, Bool.and_eq_true, Bool.or_eq_true, beq_iff_eq, bne_iff_ne, ne_eq, Bool.not_eq_true', Bool.not_eq_false', Decidable.not_not] at hb31
         refine wpl_on rfl rfl <| wpl_q (q_pure rfl) rfl <| wpl_on rfl rfl <| wpl_q (q_pure rfl) rfl <| wpl_on rfl rfl <| wpl_q (q_pure rfl) rfl <| wpl_q (q_pure rfl) rfl <| wpl_q (q_pure rfl) rfl ?_
         refine wpl_bool2 36 33 rfl rfl (fun hb36 => ?_) (fun hb36 => ?_)
         ·
          try simp only [decide_eq_true_eq, decide_eq_false_iff_not, Bool.and_eq_true, Bool.or_eq_true, beq_iff_eq, bne_iff_ne, ne_eq, Bool.not_eq_true', Bool.not_eq_false', Decidable.not_not] at hb36
          refine wpl_off rfl rfl rfl rfl <| wpl_off rfl rfl rfl rfl <| wpl_off rfl rfl rfl rfl <| wpl_off rfl rfl rfl rfl <| wpl_off rfl rfl rfl rfl <| wpl_off rfl rfl rfl rfl <| wpl_q (q_pure rfl) rfl <| wpl_q (q_pure rfl) rfl <| wpl_off rfl rfl rfl rfl <| wpl_off rfl rfl rfl rfl <| wpl_q (q_pure rfl) rfl <| wpl_q (q_pure rfl) rfl ?_
          refine wpl_off rfl rfl rfl rfl <| wpl_off rfl rfl rfl rfl <| wpl_q (q_pure rfl) rfl <| wpl_q (q_pure rfl) rfl ?_
          refine wpl_re 52 rfl (congrArg Value.bool (show _ = !goodB (xs.getD i 0) by
            (try simp only [e45, e95] at *)
            first
            | (rw [show goodB (xs.getD i 0) = true from (goodB_iff _).2 zz16]; done)
            | (rw [show goodB (xs.getD i 0) = true from (goodB_iff _).2 zz16]; rfl)
            | (rw [show goodB (xs.getD i 0) = decide ((xs.getD i 0).toNat = 95) from zz24]))) ?_
          refine wpl_nil ?_
          refine ex_mid ⟨(), trivial⟩ ?_ ?_
          ·
           exact zz10
          ·
           exact fun w h => by first | exact h | exact h.sub SubC.h SubC.h | exact h.sub zz6 zz6
         ·
          try simp only [decide_eq_true_eq, decide_eq_false_iff_not, Bool.and_eq_true, Bool.or_eq_true, beq_iff_eq, bne_iff_ne, ne_eq, Bool.not_eq_true', Bool.not_eq_false', Decidable.not_not] at hb36
          refine wpl_on rfl rfl <| wpl_q (q_pure rfl) rfl <| wpl_on rfl rfl <| wpl_q (q_pure rfl) rfl <| wpl_on rfl rfl <| wpl_q (q_pure rfl) rfl ?_
          refine wpl_bool2 39 38 rfl rfl (fun hb39 => ?_) (fun hb39 => ?_)
          ·
           try simp only [decide_eq_true_eq, decide_eq_false_iff_not, Bool.and_eq_true, Bool.or_eq_true, beq_iff_eq, bne_iff_ne, ne_eq, Bool.not_eq_true', Bool.not_eq_false', Decidable.not_not] at hb39
           refine wpl_on rfl rfl <| wpl_q (q_pure rfl) rfl <| wpl_on rfl rfl <| wpl_q (q_pure rfl) rfl <| wpl_on rfl rfl <| wpl_q (q_pure rfl) rfl <| wpl_q (q_pure rfl) rfl <| wpl_q (q_pure rfl) rfl ?_
           refine wpl_bool2 44 41 rfl rfl (fun hb44 => ?_) (fun hb44 => ?_)
           ·
            try simp only [decide_eq_true_eq, decide_eq_false_iff_not, Bool.and_eq_true, Bool.or_eq_true, beq_iff_eq, bne_iff_ne, ne_eq, Bool.not_eq_true', Bool.not_eq_false', Decidable.not_not] at hb44
            refine wpl_off rfl rfl rfl rfl <| wpl_off rfl rfl rfl rfl <| wpl_q (q_pure rfl) rfl <| wpl_q (q_pure rfl) rfl <| wpl_off rfl rfl rfl rfl <| wpl_off rfl rfl rfl rfl <| wpl_q (q_pure rfl) rfl <| wpl_q (q_pure rfl) rfl ?_
            refine wpl_re 52 rfl (congrArg Value.bool (show _ = !goodB (xs.getD i 0) by
              (try simp only [e45, e95] at *)
              first
              | (rw [show goodB (xs.getD i 0) = true from (goodB_iff _).2 zz16]; done)
              | (rw [show goodB (xs.getD i 0) = true from (goodB_iff _).2 zz16]; rfl)
              | (rw [show goodB (xs.getD i 0) = decide ((xs.getD i 0).toNat = 95) from zz24]))) ?_
            refine wpl_nil ?_
            refine ex_mid ⟨(), trivial⟩ ?_ ?_
            ·
             exact zz10
            ·
             exact fun w h => by first | exact h | exact h.sub SubC.h SubC.h | exact h.sub zz6 zz6
           ·
            try simp only [decide_eq_true_eq, decide_eq_false_iff_not, Bool.and_eq_true, Bool.or_eq_true, beq_iff_eq, bne_iff_ne, ne_eq, Bool.not_eq_true', Bool.not_eq_false', Decidable.not_not] at hb44
            refine wpl_on rfl rfl <| wpl_q (q_pure rfl) rfl <| wpl_on rfl rfl ?_
            refine wpl_q (q8_eql (b := (45 : UInt8)) rfl rfl) rfl ?_
            refine wpl_q (q_pure rfl) rfl <| wpl_q (q_pure rfl) rfl ?_
            refine wpl_bool2 48 46 rfl rfl (fun hb48 => ?_) (fun hb48 => ?_)
            ·
             try simp only [decide_eq_true_eq, decide_eq_false_iff_not, Bool.and_eq_true, Bool.or_eq_true, beq_iff_eq, bne_iff_ne, ne_eq, Bool.not_eq_true', Bool.not_eq_false', Decidable.not_not] at hb48
             refine wpl_off rfl rfl rfl rfl <| wpl_off rfl rfl rfl rfl <| wpl_q (q_pure rfl) rfl <| wpl_q (q_pure rfl) rfl ?_
             refine wpl_re 52 rfl (congrArg Value.bool (show _ = !goodB (xs.getD i 0) by
               (try simp only [e45, e95] at *)
               first
               | (rw [show goodB (xs.getD i 0) = true from (goodB_iff _).2 zz16]; done)
               | (rw [show goodB (xs.getD i 0) = true from (goodB_iff _).2 zz16]; rfl)
               | (rw [show goodB (xs.getD i 0) = decide ((xs.getD i 0).toNat = 95) from zz24]))) ?_
             refine wpl_nil ?_
             refine ex_mid ⟨(), trivial⟩ ?_ ?_
             ·
              exact zz10
             ·
              exact fun w h => by first | exact h | exact h.sub SubC.h SubC.h | exact h.sub zz6 zz6
            ·
             try simp only [decide_eq_true_eq, decide_eq_false_iff_not, Bool.and_eq_true, Bool.or_eq_true, beq_iff_eq, bne_iff_ne, ne_eq, Bool.not_eq_true', Bool.not_eq_false', Decidable.not_not] at hb48
             refine wpl_on rfl rfl <| wpl_q (q_pure rfl) rfl <| wpl_on rfl rfl ?_
             refine wpl_q (q8_eql (b := (95 : UInt8)) rfl rfl) rfl ?_
             refine wpl_q (q_pure rfl) rfl <| wpl_q (q_pure rfl) rfl ?_
             refine wpl_re 52 rfl (congrArg Value.bool (show _ = !goodB (xs.getD i 0) by
               (try simp only [e45, e95] at *)
               first
               | (rw [show goodB (xs.getD i 0) = true from (goodB_iff _).2 zz16]; done)
               | (rw [show goodB (xs.getD i 0) = true from (goodB_iff _).2 zz16]; rfl)
               | (rw [show goodB (xs.getD i 0) = decide ((xs.getD i 0).toNat = 95) from zz24]))) ?_
             refine wpl_nil ?_
             refine ex_mid ⟨(), trivial⟩ ?_ ?_
             ·
              exact zz10
             ·
              exact fun w h => by first | exact h | exact h.sub SubC.h SubC.h | exact h.sub zz6 zz6
          ·
           try simp only [decide_eq_true_eq, decide_eq_false_iff_not, Bool.and_eq_true, Bool.or_eq_true, beq_iff_eq, bne_iff_ne, ne_eq, Bool.not_eq_true', Bool.not_eq_false', Decidable.not_not] at hb39
           refine wpl_off rfl rfl rfl rfl <| wpl_off rfl rfl rfl rfl <| wpl_on rfl rfl <| wpl_q (q_pure rfl) rfl <| wpl_q (q_pure rfl) rfl <| wpl_q (q_pure rfl) rfl <| wpl_on rfl rfl <| wpl_q (q_pure rfl) rfl <| wpl_on rfl rfl ?_
           refine wpl_q (q8_eql (b := (45 : UInt8)) rfl rfl) rfl ?_
           refine wpl_q (q_pure rfl) rfl <| wpl_q (q_pure rfl) rfl ?_
           refine wpl_bool2 48 46 rfl rfl (fun hb48 => ?_) (fun hb48 => ?_)
           ·
            try simp only [decide_eq_true_eq, decide_eq_false_iff_not, Bool.and_eq_true, Bool.or_eq_true, beq_iff_eq, bne_iff_ne, ne_eq, Bool.not_eq_true', Bool.not_eq_false', Decidable.not_not] at hb48
            refine wpl_off rfl rfl rfl rfl <| wpl_off rfl rfl rfl rfl <| wpl_q (q_pure rfl) rfl <| wpl_q (q_pure rfl) rfl ?_
            refine wpl_re 52 rfl (congrArg Value.bool (show _ = !goodB (xs.getD i 0) by
              (try simp only [e45, e95] at *)
              first
              | (rw [show goodB (xs.getD i 0) = true from (goodB_iff _).2 zz16]; done)
              | (rw [show goodB (xs.getD i 0) = true from (goodB_iff _).2 zz16]; rfl)
              | (rw [show goodB (xs.getD i 0) = decide ((xs.getD i 0).toNat = 95) from zz24]))) ?_
            refine wpl_nil ?_
            refine ex_mid ⟨(), trivial⟩ ?_ ?_
            ·
             exact zz10
            ·
             exact fun w h => by first | exact h | exact h.sub SubC.h SubC.h | exact h.sub zz6 zz6
           ·
            try simp only [decide_eq_true_eq, decide_eq_false_iff_not, Bool.and_eq_true, Bool.or_eq_true, beq_iff_eq, bne_iff_ne, ne_eq, Bool.not_eq_true', Bool.not_eq_false', Decidable.not_not] at hb48
            refine wpl_on rfl rfl <| wpl_q (q_pure rfl) rfl <| wpl_on rfl rfl ?_
            refine wpl_q (q8_eql (b := (95 : UInt8)) rfl rfl) rfl ?_
            refine wpl_q (q_pure rfl) rfl <| wpl_q (q_pure rfl) rfl ?_
            refine wpl_re 52 rfl (congrArg Value.bool (show _ = !goodB (xs.getD i 0) by
              (try simp only [e45, e95] at *)
              first
              | (rw [show goodB (xs.getD i 0) = true from (goodB_iff _).2 zz16]; done)
              | (rw [show goodB (xs.getD i 0) = true from (goodB_iff _).2 zz16]; rfl)
              | (rw [show goodB (xs.getD i 0) = decide ((xs.getD i 0).toNat = 95) from zz24]))) ?_
            refine wpl_nil ?_
            refine ex_mid ⟨(), trivial⟩ ?_ ?_
            ·
             exact zz10
            ·
             exact fun w h => by first | exact h | exact h.sub SubC.h SubC.h | exact h.sub zz6 zz6
        ·
         try simp only [decide_eq_true_eq, decide_eq_false_iff_not, Bool.and_eq_true, Bool.or_eq_true, beq_iff_eq, bne_iff_ne, ne_eq, Bool.not_eq_true', Bool.not_eq_false', Decidable.not_not] at hb31
         refine wpl_off rfl rfl rfl rfl <| wpl_off rfl rfl rfl rfl <| wpl_on rfl rfl <| wpl_q (q_pure rfl) rfl <| wpl_q (q_pure rfl) rfl <| wpl_q (q_pure rfl) rfl <| wpl_on rfl rfl <| wpl_q (q_pure rfl) rfl <| wpl_on rfl rfl <| wpl_q (q_pure rfl) rfl <| wpl_on rfl rfl <| wpl_q (q_pure rfl) rfl ?_
         refine wpl_bool2 39 38 rfl rfl (fun hb39 => ?_) (fun hb39 => ?_)
         ·
          try simp only [decide_eq_true_eq, decide_eq_false_iff_not, Bool.and_eq_true, Bool.or_eq_true, beq_iff_eq, bne_iff_ne, ne_eq, Bool.not_eq_true', Bool.not_eq_false', Decidable.not_not] at hb39
          refine wpl_on rfl rfl <| wpl_q (q_pure rfl) rfl <| wpl_on rfl rfl <| wpl_q (q_pure rfl) rfl <| wpl_on rfl rfl <| wpl_q (q_pure rfl) rfl <| wpl_q (q_pure rfl) rfl <| wpl_q (q_pure rfl) rfl ?_
          refine wpl_bool2 44 41 rfl rfl (fun hb44 => ?_) (fun hb44 => ?_)
          ·
           try simp only [decide_eq_true_eq, decide_eq_false_iff_not, Bool.and_eq_true, Bool.or_eq_true, beq_iff_eq, bne_iff_ne, ne_eq, Bool.not_eq_true', Bool.not_eq_false', Decidable.not_not] at hb44
           refine wpl_off rfl rfl rfl rfl <| wpl_off rfl rfl rfl rfl <| wpl_q (q_pure rfl) rfl <| wpl_q (q_pure rfl) rfl <| wpl_off rfl rfl rfl rfl <| wpl_off rfl rfl rfl rfl <| wpl_q (q_pure rfl) rfl <| wpl_q (q_pure rfl) rfl ?_
           refine wpl_re 52 rfl (congrArg Value.bool (show _ = !goodB (xs.getD i 0) by
             (try simp only [e45, e95] at *)
             first
             | (rw [show goodB (xs.getD i 0) = true from (goodB_iff _).2 zz16]; done)
             | (rw [show goodB (xs.getD i 0) = true from (goodB_iff _).2 zz16]; rfl)
             | (rw [show goodB (xs.getD i 0) = decide ((xs.getD i 0).toNat = 95) from zz24]))) ?_
           refine wpl_nil ?_
           refine ex_mid ⟨(), trivial⟩ ?_ ?_
           ·
            exact zz10
           ·
            exact fun w h => by first | exact h | exact h.sub SubC.h SubC.h | exact h.sub zz6 zz6
          ·
           try simp only [decide_eq_true_eq, decide_eq_false_iff_not, Bool.and_eq_true, Bool.or_eq_true, beq_iff_eq, bne_iff_ne, ne_eq, Bool.not_eq_true', Bool.not_eq_false', Decidable.not_not] at hb44
           refine wpl_on rfl rfl <| wpl_q (q_pure rfl) rfl <| wpl_on rfl rfl ?_
           refine wpl_q (q8_eql (b := (45 : UInt8)) rfl rfl) rfl ?_
           refine wpl_q (q_pure rfl) rfl <| wpl_q (q_pure rfl) rfl ?_
           refine wpl_bool2 48 46 rfl rfl (fun hb48 => ?_) (fun hb48 => ?_)
           ·
            try simp only [decide_eq_true_eq, decide_eq_false_iff_not, Bool.and_eq_true, Bool.or_eq_true, beq_iff_eq, bne_iff_ne, ne_eq, Bool.not_eq_true', Bool.not_eq_false', Decidable.not_not] at hb48
            refine wpl_off rfl rfl rfl rfl <| wpl_off rfl rfl rfl rfl <| wpl_q (q_pure rfl) rfl <| wpl_q (q_pure rfl) rfl ?_
            refine wpl_re 52 rfl (congrArg Value.bool (show _ = !goodB (xs.getD i 0) by
              (try simp only [e45, e95] at *)
              first
              | (rw [show goodB (xs.getD i 0) = true from (goodB_iff _).2 zz16]; done)
              | (rw [show goodB (xs.getD i 0) = true from (goodB_iff _).2 zz16]; rfl)
              | (rw [show goodB (xs.getD i 0) = decide ((xs.getD i 0).toNat = 95) from zz24]))) ?_
            refine wpl_nil ?_
            refine ex_mid ⟨(), trivial⟩ ?_ ?_
            ·
             exact zz10
            ·
             exact fun w h => by first | exact h | exact h.sub SubC.h SubC.h | exact h.sub zz6 zz6
           ·
            try simp only [decide_eq_true_eq, decide_eq_false_iff_not, Bool.and_eq_true, Bool.or_eq_true, beq_iff_eq, bne_iff_ne, ne_eq, Bool.not_eq_true', Bool.not_eq_false', Decidable.not_not] at hb48
            refine wpl_on rfl rfl <| wpl_q (q_pure rfl) rfl <| wpl_on rfl rfl ?_
            refine wpl_q (q8_eql (b := (95 : UInt8)) rfl rfl) rfl ?_
            refine wpl_q (q_pure rfl) rfl <| wpl_q (q_pure rfl) rfl ?_
            refine wpl_re 52 rfl (congrArg Value.bool (show _ = !goodB (xs.getD i 0) by
              (try simp only [e45, e95] at *)
              first
              | (rw [show goodB (xs.getD i 0) = true from (goodB_iff _).2 zz16]; done)
              | (rw [show goodB (xs.getD i 0) = true from (goodB_iff _).2 zz16]; rfl)
              | (rw [show goodB (xs.getD i 0) = decide ((xs.getD i 0).toNat = 95) from zz24]))) ?_
            refine wpl_nil ?_
            refine ex_mid ⟨(), trivial⟩ ?_ ?_
            ·
             exact zz10
            ·
             exact fun w h => by first | exact h | exact h.sub SubC.h SubC.h | exact h.sub zz6 zz6
         ·
          try simp only [decide_eq_true_eq, decide_eq_false_iff_not, Bool.and_eq_true, Bool.or_eq_true, beq_iff_eq, bne_iff_ne, ne_eq, Bool.not_eq_true', Bool.not_eq_false', Decidable.not_not] at hb39
          refine wpl_off rfl rfl rfl rfl <| wpl_off rfl rfl rfl rfl <| wpl_on rfl rfl <| wpl_q (q_pure rfl) rfl <| wpl_q (q_pure rfl) rfl <| wpl_q (q_pure rfl) rfl <| wpl_on rfl rfl <| wpl_q (q_pure rfl) rfl <| wpl_on rfl rfl ?_
          refine wpl_q (q8_eql (b := (45 : UInt8)) rfl rfl) rfl ?_
          refine wpl_q (q_pure rfl) rfl <| wpl_q (q_pure rfl) rfl ?_
          refine wpl_bool2 48 46 rfl rfl (fun hb48 => ?_) (fun hb48 => ?_)
          ·
           try simp only [decide_eq_true_eq, decide_eq_false_iff_not, Bool.and_eq_true, Bool.or_eq_true, beq_iff_eq, bne_iff_ne, ne_eq, Bool.not_eq_true', Bool.not_eq_false', Decidable.not_not] at hb48
           refine wpl_off rfl rfl rfl rfl <| wpl_off rfl rfl rfl rfl <| wpl_q (q_pure rfl) rfl <| wpl_q (q_pure rfl) rfl ?_
           refine wpl_re 52 rfl (congrArg Value.bool (show _ = !goodB (xs.getD i 0) by
             (try simp only [e45, e95] at *)
             first
             | (rw [show goodB (xs.getD i 0) = true from (goodB_iff _).2 zz16]; done)
             | (rw [show goodB (xs.getD i 0) = true from (goodB_iff _).2 zz16]; rfl)
             | (rw [show goodB (xs.getD i 0) = decide ((xs.getD i 0).toNat = 95) from zz24]))) ?_
           refine wpl_nil ?_
           refine ex_mid ⟨(), trivial⟩ ?_ ?_
           ·
            exact zz10
           ·
            exact fun w h => by first | exact h | exact h.sub SubC.h SubC.h | exact h.sub zz6 zz6
          ·
           try simp only [decide_eq_true_eq, decide_eq_false_iff_not, Bool.and_eq_true, Bool.or_eq_true, beq_iff_eq, bne_iff_ne, ne_eq, Bool.not_eq_true', Bool.not_eq_false', Decidable.not_not] at hb48
           refine wpl_on rfl rfl <| wpl_q (q_pure rfl) rfl <| wpl_on rfl rfl ?_
           refine wpl_q (q8_eql (b := (95 : UInt8)) rfl rfl) rfl ?_
           refine wpl_q (q_pure rfl) rfl <| wpl_q (q_pure rfl) rfl ?_
           refine wpl_re 52 rfl (congrArg Value.bool (show _ = !goodB (xs.getD i 0) by
             (try simp only [e45, e95] at *)
             first
             | (rw [show goodB (xs.getD i 0) = true from (goodB_iff _).2 zz16]; done)
             | (rw [show goodB (xs.getD i 0) = true from (goodB_iff _).2 zz16]; rfl)
             | (rw [show goodB (xs.getD i 0) = decide ((xs.getD i 0).toNat = 95) from zz24]))) ?_
           refine wpl_nil ?_
           refine ex_mid ⟨(), trivial⟩ ?_ ?_
           ·
            exact zz10
           ·
            exact fun w h => by first | exact h | exact h.sub SubC.h SubC.h | exact h.sub zz6 zz6
      ·
       rintro ⟨_, _⟩; try dsimp only
       refine wpc_cond rfl (fun hc52 => ?_) (fun hc52 => ?_)
       ·
        have hg : goodB (xs.getD i 0) = false := by simpa using hc52
        refine wpc_seq <| wpc_region <| wpl_q (q_pure rfl) rfl <| wpl_nil <| ex_then <| wpc_ret ?_
        refine ex_block_ret ?_
        refine ex_then_ret ?_
        refine ex_then_ret ?_
        refine ex_block_ret ?_
        refine ex_then_ret ?_
        refine ret1 (.inl rfl) rfl rfl ?_
        exact fun w h => ⟨by rw [show nameF xs = false by exact name_bad hil hg], h.below⟩
       ·
        have hg : goodB (xs.getD i 0) = true := by simpa using hc52
        refine wpc_skip <| ex_block <| ex_then <| wpc_region <| wpl_q (q_pure rfl) rfl ?_
        refine wpl_q (q_addN (b := 1) rfl rfl zz1) rfl ?_
        refine wpl_q (q_pure rfl) rfl <| wpl_nil ?_
        refine ex_again ⟨i + 1, ⟨by show i + 1 ≤ xs.length; omega, fun j hj => by rcases Nat.lt_or_ge j i with h | h; exact hi1 j h; obtain rfl : j = i := (by have hj : j < i + 1 := hj; omega); exact hg⟩⟩ ?_ ?_ ?_
        ·
         exact zz10
        ·
         exact fun w h => by first | exact h | exact h.sub SubC.h SubC.h | exact h.sub zz6 zz6
        ·
         (show xs.length - (i + 1) < xs.length - i); omega
     ·
      simp only [decide_eq_false_iff_not] at hc16
      obtain rfl : i = xs.length := by omega
      refine wpc_exit ?_
      refine ex_then_exit ?_
      refine ex_then_exit ?_
      refine ex_block_hit ?_
      refine ex_then <| wpc_seq <| wpc_region <| wpl_q (q_pure rfl) rfl <| wpl_nil <| ex_then <| wpc_ret ?_
      refine ret1 (.inl rfl) rfl rfl ?_
      exact fun w h => ⟨by rw [name_all hi1, decide_eq_true hlen.1, decide_eq_true hlen.2]; rfl, h.below⟩
end Go.Proofs.YtgnablliekgbgaaGreatDoor
namespace Go.Proofs.YtgnablliekgbgaaGreatDoor
open Go Go.PL Go.RowKit
theorem rvCheck (l : Rv) (w : World) (hl : l.seen w.cell?) (hnl : l.nm.length ≤ maxLen)  :
    Calls Tryz.prog 27 [.agg l.c.toArray].toArray w (Pur w (.int .i64 (chkR l))) := by
  haveI := hl.svs.one
  have lss := hl.s.sv.le
  have lcs := hl.c.sv.le
  have lps := hl.p.sv.le
  have sss := hl.s.sv
  have scs := hl.c.sv
  have sps := hl.p.sv
  simp only [maxLen] at lss lcs lps
  refine enter (m := 66) (R := Mem w [] [] []) Tryz.func27 rfl rfl (Nat.le_of_ble_eq_true rfl) (Mem.start w) ?_
  refine wpc_seq <| wpc_region ?_
  refine wpl_t (t_box rfl l.c rfl) rfl (fun b1 => ?_)
  refine wpl_q (q_pure rfl) rfl <| wpl_nil <| ex_then <| wpc_seq <| wpc_seq <| wpc_region <| wpl_q (q_field Tryz.underlying30 rfl Tryz.ti25 rfl rfl _ rfl) rfl <| wpl_q (q_ld Tryz.underlying25 rfl rfl (show l.c[4]? = some (l.sv) from rfl)) rfl ?_
  refine wpl_q (q_lenW Tryz.underlying25 rfl zz5) rfl ?_
  refine wpl_q (q_pure rfl) rfl <| wpl_nil <| ex_then ?_
  refine wpc_cond rfl (fun hc10 => ?_) (fun hc10 => ?_)
  ·
   have h5 : 500 < l.ss.length := by have := of_decide_eq_true hc10; omega
   refine wpc_seq <| wpc_region <| wpl_q (q_pure rfl) rfl <| wpl_nil <| ex_then <| wpc_ret ?_
   refine ex_then_ret ?_
   refine ret1 (.inl rfl) rfl rfl ?_
   exact fun w h => ⟨by rw [chk_4 h5], h.below⟩
  ·
   have h5 : ¬ 500 < l.ss.length := by have := of_decide_eq_false hc10; omega
   refine wpc_skip <| ex_then ?_
   refine wpc_cutc ({ x : Unit // True }) [(1, .pointer (some ⟨b1, 0, none⟩))] (fun x Lc => (3, .bool (nameF l.nm && winF l.fr l.tt)) :: Lc) (fun x => Mem w [] [.blk b1 30 l.c] []) ?_ ?_
   ·
    refine wpc_region <| wpl_q (q_field Tryz.underlying30 rfl Tryz.ti9 rfl rfl _ rfl) rfl <| wpl_q (q_ld Tryz.underlying9 rfl rfl (show l.c[0]? = some (str l.nm) from rfl)) rfl ?_
    refine wpl_t (t_pur Tryz.hb48 rfl fun w h => nameOk l.nm w hnl) rfl (fun b13 => ?_)
    refine wpl_q (q_pure rfl) rfl ?_
    refine wpl_bool2 14 13 rfl rfl (fun hb14 => ?_) (fun hb14 => ?_)
    ·
     have hn : nameF l.nm = true := hb14
     refine wpl_on rfl rfl <| wpl_q (q_field Tryz.underlying30 rfl Tryz.ti24 rfl rfl _ rfl) rfl <| wpl_on rfl rfl <| wpl_q (q_ldP Tryz.underlying24 rfl Tryz.ti24 rfl l.win rfl rfl) rfl <| wpl_on rfl rfl ?_
     refine wpl_t (t_pur Tryz.hb49 rfl fun w h => clockCheck l.fr l.tt w) rfl (fun b17 => ?_)
     refine wpl_on rfl rfl <| wpl_q (q_pure rfl) rfl <| wpl_q (q_pure rfl) rfl ?_
     refine wpl_re 19 rfl (congrArg Value.bool (show _ = (nameF l.nm && winF l.fr l.tt) by first | (rw [hn, Bool.true_and]; cases winF l.fr l.tt <;> rfl) | (rw [hn]; rfl))) ?_
     refine wpl_q (q_pure rfl) rfl <| wpl_nil ?_
     refine ex_mid ⟨(), trivial⟩ ?_ ?_
     ·
      exact zz10
     ·
      exact fun w h => by first | exact h | exact h.sub SubC.h SubC.h | exact h.sub zz6 zz6
    ·
     have hn : nameF l.nm = false := hb14
     refine wpl_off rfl rfl rfl rfl <| wpl_off rfl rfl rfl rfl <| wpl_off rfl rfl rfl rfl <| wpl_off rfl rfl rfl rfl <| wpl_q (q_pure rfl) rfl ?_
     refine wpl_re 19 rfl (congrArg Value.bool (show _ = (nameF l.nm && winF l.fr l.tt) by first | (rw [hn, Bool.true_and]; cases winF l.fr l.tt <;> rfl) | (rw [hn]; rfl))) ?_
     refine wpl_q (q_pure rfl) rfl <| wpl_nil ?_
     refine ex_mid ⟨(), trivial⟩ ?_ ?_
     ·
      exact zz10
     ·
      exact fun w h => by first | exact h | exact h.sub SubC.h SubC.h | exact h.sub zz6 zz6
   ·
    rintro ⟨_, _⟩; try dsimp only
    refine wpc_cutc ({ x : Unit // True }) [(1, .pointer (some ⟨b1, 0, none⟩))] (fun x Lc => (3, .bool (okA l)) :: Lc) (fun x => Mem w [] [.blk b1 30 l.c] []) ?_ ?_
    ·
     refine wpc_cutc ({ x : Unit // True }) [(1, .pointer (some ⟨b1, 0, none⟩)), (3, .bool (nameF l.nm && winF l.fr l.tt))] (fun x Lc => (37, .bool (sigB l.ix l.chs.length l.ps.length)) :: Lc) (fun x => Mem w [] [.blk b1 30 l.c] []) ?_ ?_
     ·
      refine wpc_region <| wpl_q (q_field Tryz.underlying30 rfl Tryz.ti28 rfl rfl _ rfl) rfl <| wpl_q (q_field Tryz.underlying28 rfl Tryz.ti3 rfl rfl _ rfl) rfl <| wpl_q (q_ld Tryz.underlying3 rfl rfl (show l.c[5]? = some (.int .i64 l.ix) from rfl)) rfl <| wpl_q (q_pure rfl) rfl <| wpl_q (q_pure rfl) rfl ?_
      refine wpl_bool2 24 23 rfl rfl (fun hb24 => ?_) (fun hb24 => ?_)
      ·
       try simp only [decide_eq_true_eq, decide_eq_false_iff_not, Bool.and_eq_true, Bool.or_eq_true, beq_iff_eq, bne_iff_ne, ne_eq, Bool.not_eq_true', Bool.not_eq_false', Decidable.not_not] at hb24
       refine wpl_off rfl rfl rfl rfl <| wpl_off rfl rfl rfl rfl <| wpl_off rfl rfl rfl rfl <| wpl_off rfl rfl rfl rfl <| wpl_off rfl rfl rfl rfl <| wpl_q (q_pure rfl) rfl <| wpl_q (q_pure rfl) rfl <| wpl_off rfl rfl rfl rfl <| wpl_off rfl rfl rfl rfl <| wpl_off rfl rfl rfl rfl <| wpl_off rfl rfl rfl rfl <| wpl_off rfl rfl rfl rfl ?_
       refine wpl_q (q_pure rfl) rfl ?_
       refine wpl_re 37 rfl (congrArg Value.bool (show _ = (sigB l.ix l.chs.length l.ps.length) from by
         (try simp only [bne_iff_ne, ne_eq, bne_eq_false_iff_eq, decide_eq_true_eq, decide_eq_false_iff_not, gt_iff_lt] at *)
         first
         | exact (show sigB l.ix l.chs.length l.ps.length = true from zz43).symm
         | (rw [Bool.eq_iff_iff]; simp only [sigB, Bool.or_eq_true, decide_eq_true_eq]; omega))) ?_
       refine wpl_nil ?_
       refine ex_mid ⟨(), trivial⟩ ?_ ?_
       ·
        exact zz10
       ·
        exact fun w h => by first | exact h | exact h.sub SubC.h SubC.h | exact h.sub zz6 zz6
      ·
       try simp only [decide_eq_true_eq, decide_eq_false_iff_not, Bool.and_eq_true, Bool.or_eq_true, beq_iff_eq, bne_iff_ne, ne_eq, Bool.not_eq_true', Bool.not_eq_false', Decidable.not_not] at hb24
       refine wpl_on rfl rfl <| wpl_q (q_field Tryz.underlying30 rfl Tryz.ti28 rfl rfl _ rfl) rfl <| wpl_on rfl rfl <| wpl_q (q_field Tryz.underlying28 rfl Tryz.ti26 rfl rfl _ rfl) rfl <| wpl_on rfl rfl <| wpl_q (q_ld Tryz.underlying26 rfl rfl (show l.c[6]? = some (l.cv) from rfl)) rfl <| wpl_on rfl rfl ?_
       refine wpl_q (q_lenW Tryz.underlying26 rfl zz5) rfl ?_
       refine wpl_on rfl rfl <| wpl_q (q_pure rfl) rfl <| wpl_q (q_pure rfl) rfl <| wpl_q (q_pure rfl) rfl ?_
       refine wpl_bool2 31 29 rfl rfl (fun hb31 => ?_) (fun hb31 => ?_)
       ·
        try simp only [decide_eq_true_eq, decide_eq_false_iff_not, Bool.and_eq_true, Bool.or_eq_true, beq_iff_eq, bne_iff_ne, ne_eq, Bool.not_eq_true', Bool.not_eq_false', Decidable.not_not] at hb31
        refine wpl_off rfl rfl rfl rfl <| wpl_off rfl rfl rfl rfl <| wpl_off rfl rfl rfl rfl <| wpl_off rfl rfl rfl rfl <| wpl_off rfl rfl rfl rfl <| wpl_q (q_pure rfl) rfl ?_
        refine wpl_re 37 rfl (congrArg Value.bool (show _ = (sigB l.ix l.chs.length l.ps.length) from by
          (try simp only [bne_iff_ne, ne_eq, bne_eq_false_iff_eq, decide_eq_true_eq, decide_eq_false_iff_not, gt_iff_lt] at *)
          first
          | exact (show sigB l.ix l.chs.length l.ps.length = true from zz43).symm
          | (rw [Bool.eq_iff_iff]; simp only [sigB, Bool.or_eq_true, decide_eq_true_eq]; omega))) ?_
        refine wpl_nil ?_
        refine ex_mid ⟨(), trivial⟩ ?_ ?_
        ·
         exact zz10
        ·
         exact fun w h => by first | exact h | exact h.sub SubC.h SubC.h | exact h.sub zz6 zz6
       ·
        try simp only [decide_eq_true_eq, decide_eq_false_iff_not, Bool.and_eq_true, Bool.or_eq_true, beq_iff_eq, bne_iff_ne, ne_eq, Bool.not_eq_true', Bool.not_eq_false', Decidable.not_not] at hb31
        refine wpl_on rfl rfl <| wpl_q (q_field Tryz.underlying30 rfl Tryz.ti28 rfl rfl _ rfl) rfl <| wpl_on rfl rfl <| wpl_q (q_field Tryz.underlying28 rfl Tryz.ti26 rfl rfl _ rfl) rfl <| wpl_on rfl rfl <| wpl_q (q_ld Tryz.underlying26 rfl rfl (show l.c[7]? = some (l.pv) from rfl)) rfl <| wpl_on rfl rfl ?_
        refine wpl_q (q_lenW Tryz.underlying26 rfl zz5) rfl ?_
        refine wpl_on rfl rfl <| wpl_q (q_pure rfl) rfl <| wpl_q (q_pure rfl) rfl ?_
        refine wpl_re 37 rfl (congrArg Value.bool (show _ = (sigB l.ix l.chs.length l.ps.length) from by
          (try simp only [bne_iff_ne, ne_eq, bne_eq_false_iff_eq, decide_eq_true_eq, decide_eq_false_iff_not, gt_iff_lt] at *)
          first
          | exact (show sigB l.ix l.chs.length l.ps.length = true from zz43).symm
          | (rw [Bool.eq_iff_iff]; simp only [sigB, Bool.or_eq_true, decide_eq_true_eq]; omega))) ?_
        refine wpl_nil ?_
        refine ex_mid ⟨(), trivial⟩ ?_ ?_
        ·
         exact zz10
        ·
         exact fun w h => by first | exact h | exact h.sub SubC.h SubC.h | exact h.sub zz6 zz6
     ·
      rintro ⟨_, _⟩; try dsimp only
      refine wpc_cond rfl (fun hc37 => ?_) (fun hc37 => ?_)
      ·
       have hs : (sigB l.ix l.chs.length l.ps.length) = true := hc37
       refine wpc_region <| wpl_q (q_pure rfl) rfl <| wpl_q (q_pure rfl) rfl ?_
       refine wpl_bool2 39 3 rfl rfl (fun hb39 => ?_) (fun hb39 => ?_)
       ·
        have hnw : (nameF l.nm && winF l.fr l.tt) = true := hb39
        refine wpl_on rfl rfl <| wpl_q (q_field Tryz.underlying30 rfl Tryz.ti28 rfl rfl _ rfl) rfl <| wpl_on rfl rfl <| wpl_q (q_field Tryz.underlying28 rfl Tryz.ti26 rfl rfl _ rfl) rfl <| wpl_on rfl rfl <| wpl_q (q_ld Tryz.underlying26 rfl rfl (show l.c[7]? = some (l.pv) from rfl)) rfl <| wpl_on rfl rfl ?_
        refine wpl_q (q_lenW Tryz.underlying26 rfl zz5) rfl ?_
        refine wpl_on rfl rfl <| wpl_q (q_field Tryz.underlying30 rfl Tryz.ti28 rfl rfl _ rfl) rfl <| wpl_on rfl rfl <| wpl_q (q_ldP Tryz.underlying28 rfl Tryz.ti28 rfl l.sig rfl rfl) rfl <| wpl_on rfl rfl ?_
        refine wpl_t (t_pur Tryz.hb50 rfl fun w h => check7 ((l.ps.length : Nat) : Int) l.ix l.cv l.pv l.chs l.ps w scs sps) rfl (fun b46 => ?_)
        refine wpl_on rfl rfl <| wpl_q (q_pure rfl) rfl <| wpl_q (q_pure rfl) rfl ?_
        refine wpl_re 48 rfl (congrArg Value.bool (show _ = okA l by unfold okA gsigB; rw [hs, hnw]; first | rfl | simp)) ?_
        refine wpl_q (q_pure rfl) rfl <| wpl_nil ?_
        refine ex_mid ⟨(), trivial⟩ ?_ ?_
        ·
         exact zz10
        ·
         exact fun w h => by first | exact h | exact h.sub SubC.h SubC.h | exact h.sub zz6 zz6
       ·
        have hnw : (nameF l.nm && winF l.fr l.tt) = false := hb39
        refine wpl_off rfl rfl rfl rfl <| wpl_off rfl rfl rfl rfl <| wpl_off rfl rfl rfl rfl <| wpl_off rfl rfl rfl rfl <| wpl_off rfl rfl rfl rfl <| wpl_off rfl rfl rfl rfl <| wpl_off rfl rfl rfl rfl <| wpl_off rfl rfl rfl rfl <| wpl_q (q_pure rfl) rfl ?_
        refine wpl_re 48 rfl (congrArg Value.bool (show _ = okA l by unfold okA gsigB; rw [hs, hnw]; first | rfl | simp)) ?_
        refine wpl_q (q_pure rfl) rfl <| wpl_nil ?_
        refine ex_mid ⟨(), trivial⟩ ?_ ?_
        ·
         exact zz10
        ·
         exact fun w h => by first | exact h | exact h.sub SubC.h SubC.h | exact h.sub zz6 zz6
      ·
       have hs : (sigB l.ix l.chs.length l.ps.length) = false := hc37
       refine wpc_re 3 rfl (congrArg Value.bool (show _ = okA l by unfold okA gsigB; rw [hs]; simp)) ?_
       refine wpc_skip ?_
       refine ex_mid ⟨(), trivial⟩ ?_ ?_
       ·
        exact zz10
       ·
        exact fun w h => by first | exact h | exact h.sub SubC.h SubC.h | exact h.sub zz6 zz6
    ·
     rintro ⟨_, _⟩; try dsimp only
     refine wpc_seq <| wpc_region <| wpl_q (q_pure rfl) rfl <| wpl_nil <| ex_then <| wpc_seq <| wpc_seq <| wpc_region <| wpl_q (q_field Tryz.underlying30 rfl Tryz.ti25 rfl rfl _ rfl) rfl <| wpl_q (q_ld Tryz.underlying25 rfl rfl (show l.c[4]? = some (l.sv) from rfl)) rfl ?_
     refine wpl_q (q_lenW Tryz.underlying25 rfl zz5) rfl ?_
     refine wpl_re 3 rfl (congrArg Value.bool (show _ = (okA l && decide (incF l.ss 0)) by rw [decide_eq_true (incF_0 _), Bool.and_true])) ?_
     refine wpl_q (q_pure rfl) rfl <| wpl_nil <| ex_then <| wpc_block ?_
     refine wpc_loopc (ι := { x : Nat // (x ≤ l.ss.length) }) [(50, _), (51, _)] (fun x Lc => (52, .int .i64 ((x.1 : Nat) : Int)) :: (4, .int .u64 ((lastN l.ss x.1).toNat : Int)) :: (3, .bool (okA l && decide (incF l.ss x.1))) :: Lc) (fun x => Mem w [] [.blk b1 30 l.c] []) (fun x => l.ss.length - x.1) ⟨0, Nat.zero_le _⟩ zz10 ?_ ?_
     ·
      exact fun w h => h
     ·
      rintro ⟨i, hi0⟩; try dsimp only
      have hi0 : i ≤ l.ss.length := hi0
      refine wpc_seq <| wpc_region <| wpl_q (q_pure rfl) rfl <| wpl_nil <| ex_then <| wpc_seq ?_
      refine wpc_cond rfl (fun hc53 => ?_) (fun hc53 => ?_)
      ·
       simp only [decide_eq_true_eq] at hc53
       have hil : i < l.ss.length := by omega
       refine wpc_skip <| ex_then <| wpc_seq <| wpc_block <| wpc_seq <| wpc_region ?_
       refine wpl_q (q_idxW1 Tryz.underlying25 Tryz.ti22 rfl rfl zz5 zz1) rfl ?_
       refine wpl_q (q_ldW Tryz.underlying22 rfl rfl (fun w h => h.seen_old hl.s) zz49) rfl ?_
       refine wpl_q (q_pure rfl) rfl <| wpl_nil <| ex_then <| wpc_seq <| wpc_region <| wpl_q (q_pure rfl) rfl <| wpl_q (q_pure rfl) rfl ?_
       refine wpl_bool2 57 3 rfl rfl (fun hb57 => ?_) (fun hb57 => ?_)
       ·
        have hk : (okA l && decide (incF l.ss i)) = true := hb57
        refine wpl_on rfl rfl <| wpl_q (q_pure rfl) rfl <| wpl_on rfl rfl <| wpl_q (q_pure rfl) rfl <| wpl_on rfl rfl <| wpl_q (q_pure rfl) rfl <| wpl_q (q_pure rfl) rfl ?_
        refine wpl_re 61 rfl (congrArg Value.bool (show _ = (okA l && decide (incF l.ss (i + 1))) by
          rw [decide_eq_decide.2 incF_S, Bool.decide_and, ← Bool.and_assoc, hk]
          first
          | rfl
          | (rw [Bool.true_and]; first | rfl | exact decide_eq_decide.2 (by first | exact Iff.rfl | (rw [UInt64.lt_iff_toNat_lt]; omega))))) ?_
        refine wpl_q (q_pure rfl) rfl <| wpl_nil <| ex_then <| wpc_region <| wpl_q (q_pure rfl) rfl <| wpl_q (q_pure rfl) rfl <| wpl_nil <| ex_block <| ex_then <| wpc_region ?_
        refine wpl_q (q_addN (b := 1) rfl rfl zz1) rfl ?_
        refine wpl_q (q_pure rfl) rfl <| wpl_nil ?_
        refine ex_again ⟨i + 1, (show i + 1 ≤ l.ss.length from zz16)⟩ ?_ ?_ ?_
        ·
         exact zz10
        ·
         exact fun w h => by first | exact h | exact h.sub SubC.h SubC.h | exact h.sub zz6 zz6
        ·
         (show l.ss.length - (i + 1) < l.ss.length - i); omega
       ·
        have hk : (okA l && decide (incF l.ss i)) = false := hb57
        refine wpl_off rfl rfl rfl rfl <| wpl_off rfl rfl rfl rfl <| wpl_off rfl rfl rfl rfl <| wpl_q (q_pure rfl) rfl ?_
        refine wpl_re 61 rfl (congrArg Value.bool (show _ = (okA l && decide (incF l.ss (i + 1))) by
          rw [decide_eq_decide.2 incF_S, Bool.decide_and, ← Bool.and_assoc, hk]
          first
          | rfl
          | (rw [Bool.true_and]; first | rfl | exact decide_eq_decide.2 (by first | exact Iff.rfl | (rw [UInt64.lt_iff_toNat_lt]; omega))))) ?_
        refine wpl_q (q_pure rfl) rfl <| wpl_nil <| ex_then <| wpc_region <| wpl_q (q_pure rfl) rfl <| wpl_q (q_pure rfl) rfl <| wpl_nil <| ex_block <| ex_then <| wpc_region ?_
        refine wpl_q (q_addN (b := 1) rfl rfl zz1) rfl ?_
        refine wpl_q (q_pure rfl) rfl <| wpl_nil ?_
        refine ex_again ⟨i + 1, (show i + 1 ≤ l.ss.length from zz16)⟩ ?_ ?_ ?_
        ·
         exact zz10
        ·
         exact fun w h => by first | exact h | exact h.sub SubC.h SubC.h | exact h.sub zz6 zz6
        ·
         (show l.ss.length - (i + 1) < l.ss.length - i); omega
      ·
       simp only [decide_eq_false_iff_not] at hc53
       obtain rfl : i = l.ss.length := by omega
       refine wpc_exit ?_
       refine ex_then_exit ?_
       refine ex_then_exit ?_
       refine ex_block_hit ?_
       refine ex_then <| wpc_seq <| wpc_seq <| wpc_region <| wpl_q (q_pure rfl) rfl <| wpl_q (q_pure rfl) rfl <| wpl_nil <| ex_then ?_
       refine wpc_cond rfl (fun hc65 => ?_) (fun hc65 => ?_)
       ·
        have hk : okR l = false := by rw [Bool.not_eq_true'] at hc65; exact hc65
        refine wpc_seq <| wpc_region <| wpl_q (q_pure rfl) rfl <| wpl_nil <| ex_then <| wpc_ret ?_
        refine ex_then_ret ?_
        refine ret1 (.inl rfl) rfl rfl ?_
        exact fun w h => ⟨by rw [chk_8 h5 hk], h.below⟩
       ·
        have hk : okR l = true := by rw [Bool.not_eq_false'] at hc65; exact hc65
        refine wpc_skip <| ex_then <| wpc_seq <| wpc_region <| wpl_q (q_pure rfl) rfl <| wpl_nil <| ex_then <| wpc_ret ?_
        refine ret1 (.inl rfl) rfl rfl ?_
        exact fun w h => ⟨by rw [chk_ok h5 hk], h.below⟩
end Go.Proofs.YtgnablliekgbgaaGreatDoor
namespace Go.Proofs.YtgnablliekgbgaaGreatDoor
open Go Go.PL Go.RowKit
theorem getD64 {xs : List UInt64} {j : Nat} (hj : j < xs.length) : xs.getD j 0 = xs[j] := by rw [List.getD_eq_getElem?_getD, List.getElem?_eq_getElem hj]; rfl
end Go.Proofs.YtgnablliekgbgaaGreatDoor
namespace Go.Proofs.YtgnablliekgbgaaGreatDoor
open Go Go.PL Go.RowKit
theorem eq8_32 : Eq8 Tryz.prog 32 16 := eqc_array Tryz.underlying32 Tryz.ti32 Tryz.ti5 rfl (eqc_int Tryz.underlying5 Tryz.ti5)
theorem same_step64 (xs ys : List UInt64) (i : Nat) (h : xs.take i = ys.take i) (hx : i < xs.length) (hy : i < ys.length) (e : xs.getD i 0 = ys.getD i 0) : xs.take (i + 1) = ys.take (i + 1) := by
  rw [List.take_add_one, List.take_add_one, h, List.getElem?_eq_getElem hx, List.getElem?_eq_getElem hy]
  rw [getD64 hx, getD64 hy] at e
  rw [e]
theorem same_stepS (xs ys : List (List UInt8)) (i : Nat) (h : xs.take i = ys.take i) (hx : i < xs.length) (hy : i < ys.length) (e : xs.getD i [] = ys.getD i []) : xs.take (i + 1) = ys.take (i + 1) := by
  rw [List.take_add_one, List.take_add_one, h, List.getElem?_eq_getElem hx, List.getElem?_eq_getElem hy]
  rw [List.getD_eq_getElem?_getD, List.getElem?_eq_getElem hx, List.getD_eq_getElem?_getD, List.getElem?_eq_getElem hy] at e
  have e : xs[i] = ys[i] := e
  rw [e]
theorem sameNumbers (av : Value) (xs : List UInt64) (bv : Value) (ys : List UInt64) (w : World) (hav : Seen w.cell? av xs.length 1 (v64s xs)) (hbv : Seen w.cell? bv ys.length 1 (v64s ys))  :
    Calls Tryz.prog 21 [av, bv].toArray w (Pur w (.bool (decide (xs = ys)))) := by
  have sav := hav.sv
  have lav := sav.le
  simp only [maxLen] at lav
  have sbv := hbv.sv
  have lbv := sbv.le
  simp only [maxLen] at lbv
  refine enter (m := 26) (R := Mem w [] [] []) Tryz.func21 rfl rfl (Nat.le_of_ble_eq_true rfl) (Mem.start w) ?_
  refine wpc_seq <| wpc_region <| wpl_q (q_pure rfl) rfl <| wpl_nil <| ex_then <| wpc_seq <| wpc_seq <| wpc_region <| wpl_q (q_pure rfl) rfl ?_
  refine wpl_q (q_lenW Tryz.underlying25 rfl zz5) rfl ?_
  refine wpl_q (q_pure rfl) rfl ?_
  refine wpl_q (q_lenW Tryz.underlying25 rfl zz5) rfl ?_
  refine wpl_q (q_pure rfl) rfl <| wpl_nil <| ex_then ?_
  refine wpc_cond rfl (fun hc10 => ?_) (fun hc10 => ?_)
  ·
   simp only [decide_eq_true_eq, bne_iff_ne, ne_eq] at hc10
   have hne : xs ≠ ys := fun e => hc10 (by rw [e])
   refine wpc_seq <| wpc_region <| wpl_q (q_pure rfl) rfl <| wpl_nil <| ex_then <| wpc_ret ?_
   refine ex_then_ret ?_
   refine ret1 (.inl rfl) rfl rfl ?_
   exact fun w h => ⟨by simp [hne], h.below⟩
  ·
   simp only [bne_eq_false_iff_eq] at hc10
   have hl : xs.length = ys.length := by omega
   refine wpc_skip <| ex_then <| wpc_seq <| wpc_seq <| wpc_region <| wpl_q (q_pure rfl) rfl <| wpl_nil <| ex_then <| wpc_block ?_
   refine wpc_loopc (ι := { x : Nat // (x ≤ xs.length) ∧ (xs.take x = ys.take x) }) [(0, _), (1, _)] (fun x Lc => (5, .int .i64 ((x.1 : Nat) : Int)) :: Lc) (fun x => Mem w [] [] []) (fun x => xs.length - x.1) ⟨0, ⟨Nat.zero_le _, rfl⟩⟩ zz10 ?_ ?_
   ·
    exact fun w h => h
   ·
    rintro ⟨i, ⟨hi0, hi1⟩⟩; try dsimp only
    have hi0 : i ≤ xs.length := hi0; have hi1 : xs.take i = ys.take i := hi1
    refine wpc_seq <| wpc_seq <| wpc_region <| wpl_q (q_pure rfl) rfl <| wpl_q (q_pure rfl) rfl ?_
    refine wpl_q (q_lenW Tryz.underlying25 rfl zz5) rfl ?_
    refine wpl_q (q_pure rfl) rfl <| wpl_nil <| ex_then ?_
    refine wpc_cond rfl (fun hc14 => ?_) (fun hc14 => ?_)
    ·
     try simp only [decide_eq_true_eq, decide_eq_false_iff_not, Bool.and_eq_true, Bool.or_eq_true, beq_iff_eq, bne_iff_ne, ne_eq, Bool.not_eq_true', Bool.not_eq_false', Decidable.not_not] at hc14
     refine wpc_skip <| ex_then <| wpc_seq <| wpc_block <| wpc_seq ?_
     refine wpc_draw 9 zz8 (fun _ h => h.drew) ?_
     refine wpd_p 0 rfl zz8 trivial (q_pure rfl) rfl sk0 ?_
     refine wpd_p 1 rfl zz8 trivial (q_pure rfl) rfl sk0 ?_
     refine wpd_p 2 rfl zz8 trivial (q_idxW1 Tryz.underlying25 Tryz.ti22 rfl rfl zz5 zz1) rfl sk0 ?_
     refine wpd_q 3 rfl zz8 trivial (q_ldW Tryz.underlying22 rfl rfl (fun w h => zz14) zz49) rfl (fun _ h => h) ?_
     refine wpd_p 4 rfl zz8 trivial (q_pure rfl) rfl sk0 ?_
     refine wpd_p 5 rfl zz8 trivial (q_pure rfl) rfl sk0 ?_
     refine wpd_p 6 rfl zz8 trivial (q_idxW1 Tryz.underlying25 Tryz.ti22 rfl rfl zz5 zz1) rfl sk0 ?_
     refine wpd_q 7 rfl zz8 trivial (q_ldW Tryz.underlying22 rfl rfl (fun w h => zz14) zz49) rfl (fun _ h => h) ?_
     refine wpd_p 8 rfl zz8 trivial (q64_neq rfl rfl) rfl sk0 ?_
     refine wpd_done zz8 ?_
     refine ex_then ?_
     refine wpc_cond rfl (fun hc25 => ?_) (fun hc25 => ?_)
     ·
      have hee : ¬ xs.getD i 0 = ys.getD i 0 := by simpa using hc25
      have hne : xs ≠ ys := fun e => hee (by rw [e])
      refine wpc_seq <| wpc_region <| wpl_q (q_pure rfl) rfl <| wpl_nil <| ex_then <| wpc_ret ?_
      refine ex_block_ret ?_
      refine ex_then_ret ?_
      refine ex_then_ret ?_
      refine ex_block_ret ?_
      refine ex_then_ret ?_
      refine ret1 (.inl rfl) rfl rfl ?_
      exact fun w h => ⟨by simp [hne], h.below⟩
     ·
      have hee : xs.getD i 0 = ys.getD i 0 := by simpa using hc25
      refine wpc_skip <| ex_block <| ex_then <| wpc_region <| wpl_q (q_pure rfl) rfl ?_
      refine wpl_q (q_addN (b := 1) rfl rfl zz1) rfl ?_
      refine wpl_q (q_pure rfl) rfl <| wpl_nil ?_
      refine ex_again ⟨i + 1, ⟨by show i + 1 ≤ xs.length; omega, same_step64 xs ys i hi1 zz16 zz16 hee⟩⟩ ?_ ?_ ?_
      ·
       exact zz10
      ·
       exact fun w h => by first | exact h | exact h.sub SubC.h SubC.h | exact h.sub zz6 zz6
      ·
       (show xs.length - (i + 1) < xs.length - i); omega
    ·
     simp only [decide_eq_false_iff_not] at hc14
     obtain rfl : i = xs.length := by omega
     have heq : xs = ys := by rw [List.take_length, hl, List.take_length] at hi1; exact hi1
     refine wpc_exit ?_
     refine ex_then_exit ?_
     refine ex_then_exit ?_
     refine ex_block_hit ?_
     refine ex_then <| wpc_seq <| wpc_region <| wpl_q (q_pure rfl) rfl <| wpl_nil <| ex_then <| wpc_ret ?_
     refine ret1 (.inl rfl) rfl rfl ?_
     exact fun w h => ⟨by simp [heq], h.below⟩
theorem sameShorts (av : Value) (xs : List (List UInt8)) (bv : Value) (ys : List (List UInt8)) (w : World) (hav : Seen w.cell? av xs.length 16 (v8s xs.flatten)) (hlxs : ∀ x ∈ xs, x.length = 16) (hbv : Seen w.cell? bv ys.length 16 (v8s ys.flatten)) (hlys : ∀ x ∈ ys, x.length = 16)  :
    Calls Tryz.prog 45 [av, bv].toArray w (Pur w (.bool (decide (xs = ys)))) := by
  have sav := hav.sv
  have lav := sav.le
  simp only [maxLen] at lav
  have sbv := hbv.sv
  have lbv := sbv.le
  simp only [maxLen] at lbv
  refine enter (m := 26) (R := Mem w [] [] []) Tryz.func45 rfl rfl (Nat.le_of_ble_eq_true rfl) (Mem.start w) ?_
  refine wpc_seq <| wpc_region <| wpl_q (q_pure rfl) rfl <| wpl_nil <| ex_then <| wpc_seq <| wpc_seq <| wpc_region <| wpl_q (q_pure rfl) rfl ?_
  refine wpl_q (q_lenW Tryz.underlying26 rfl zz5) rfl ?_
  refine wpl_q (q_pure rfl) rfl ?_
  refine wpl_q (q_lenW Tryz.underlying26 rfl zz5) rfl ?_
  refine wpl_q (q_pure rfl) rfl <| wpl_nil <| ex_then ?_
  refine wpc_cond rfl (fun hc10 => ?_) (fun hc10 => ?_)
  ·
   simp only [decide_eq_true_eq, bne_iff_ne, ne_eq] at hc10
   have hne : xs ≠ ys := fun e => hc10 (by rw [e])
   refine wpc_seq <| wpc_region <| wpl_q (q_pure rfl) rfl <| wpl_nil <| ex_then <| wpc_ret ?_
   refine ex_then_ret ?_
   refine ret1 (.inl rfl) rfl rfl ?_
   exact fun w h => ⟨by simp [hne], h.below⟩
  ·
   simp only [bne_eq_false_iff_eq] at hc10
   have hl : xs.length = ys.length := by omega
   refine wpc_skip <| ex_then <| wpc_seq <| wpc_seq <| wpc_region <| wpl_q (q_pure rfl) rfl <| wpl_nil <| ex_then <| wpc_block ?_
   refine wpc_loopc (ι := { x : Nat // (x ≤ xs.length) ∧ (xs.take x = ys.take x) }) [(0, _), (1, _)] (fun x Lc => (5, .int .i64 ((x.1 : Nat) : Int)) :: Lc) (fun x => Mem w [] [] []) (fun x => xs.length - x.1) ⟨0, ⟨Nat.zero_le _, rfl⟩⟩ zz10 ?_ ?_
   ·
    exact fun w h => h
   ·
    rintro ⟨i, ⟨hi0, hi1⟩⟩; try dsimp only
    have hi0 : i ≤ xs.length := hi0; have hi1 : xs.take i = ys.take i := hi1
    refine wpc_seq <| wpc_seq <| wpc_region <| wpl_q (q_pure rfl) rfl <| wpl_q (q_pure rfl) rfl ?_
    refine wpl_q (q_lenW Tryz.underlying26 rfl zz5) rfl ?_
    refine wpl_q (q_pure rfl) rfl <| wpl_nil <| ex_then ?_
    refine wpc_cond rfl (fun hc14 => ?_) (fun hc14 => ?_)
    ·
     simp only [decide_eq_true_eq] at hc14
     have g1 := getD_mem_len hlxs (i := i) zz16
     have g2 := getD_mem_len hlys (i := i) zz16
     refine wpc_skip <| ex_then <| wpc_seq <| wpc_block <| wpc_seq ?_
     refine wpc_draw 9 zz8 (fun _ h => h.drew) ?_
     refine wpd_p 0 rfl zz8 trivial (q_pure rfl) rfl sk0 ?_
     refine wpd_p 1 rfl zz8 trivial (q_pure rfl) rfl sk0 ?_
     refine wpd_p 2 rfl zz8 trivial (q_idxW Tryz.underlying26 Tryz.ti32 rfl rfl zz5 zz1) rfl sk0 ?_
     refine wpd_q 3 rfl zz8 trivial (q_ldWN Tryz.underlying32 rfl Tryz.ti32 rfl (fun w h => zz14) (v8s (xs.getD i [])) (part8 hlxs zz16) ((v8s_length _).trans g1)) rfl (fun _ h => h) ?_
     refine wpd_p 4 rfl zz8 trivial (q_pure rfl) rfl sk0 ?_
     refine wpd_p 5 rfl zz8 trivial (q_pure rfl) rfl sk0 ?_
     refine wpd_p 6 rfl zz8 trivial (q_idxW Tryz.underlying26 Tryz.ti32 rfl rfl zz5 zz1) rfl sk0 ?_
     refine wpd_q 7 rfl zz8 trivial (q_ldWN Tryz.underlying32 rfl Tryz.ti32 rfl (fun w h => zz14) (v8s (ys.getD i [])) (part8 hlys zz16) ((v8s_length _).trans g2)) rfl (fun _ h => h) ?_
     refine wpd_p 8 rfl zz8 trivial (q_ne8 eq8_32 zz8 rfl rfl zz41 zz41) rfl sk0 ?_
     refine wpd_done zz8 ?_
     refine ex_then ?_
     refine wpc_cond rfl (fun hc25 => ?_) (fun hc25 => ?_)
     ·
      have hee : ¬ xs.getD i [] = ys.getD i [] := by simpa using hc25
      have hne : xs ≠ ys := fun e => hee (by rw [e])
      refine wpc_seq <| wpc_region <| wpl_q (q_pure rfl) rfl <| wpl_nil <| ex_then <| wpc_ret ?_
      refine ex_block_ret ?_
      refine ex_then_ret ?_
      refine ex_then_ret ?_
      refine ex_block_ret ?_
      refine ex_then_ret ?_
      refine ret1 (.inl rfl) rfl rfl ?_
      exact fun w h => ⟨by simp [hne], h.below⟩
     ·
      have hee : xs.getD i [] = ys.getD i [] := by simpa using hc25
      refine wpc_skip <| ex_block <| ex_then <| wpc_region <| wpl_q (q_pure rfl) rfl ?_
      refine wpl_q (q_addN (b := 1) rfl rfl zz1) rfl ?_
      refine wpl_q (q_pure rfl) rfl <| wpl_nil ?_
      refine ex_again ⟨i + 1, ⟨by show i + 1 ≤ xs.length; omega, same_stepS xs ys i hi1 zz16 zz16 hee⟩⟩ ?_ ?_ ?_
      ·
       exact zz10
      ·
       exact fun w h => by first | exact h | exact h.sub SubC.h SubC.h | exact h.sub zz6 zz6
      ·
       (show xs.length - (i + 1) < xs.length - i); omega
    ·
     simp only [decide_eq_false_iff_not] at hc14
     obtain rfl : i = xs.length := by omega
     have heq : xs = ys := by rw [List.take_length, hl, List.take_length] at hi1; exact hi1
     refine wpc_exit ?_
     refine ex_then_exit ?_
     refine ex_then_exit ?_
     refine ex_block_hit ?_
     refine ex_then <| wpc_seq <| wpc_region <| wpl_q (q_pure rfl) rfl <| wpl_nil <| ex_then <| wpc_ret ?_
     refine ret1 (.inl rfl) rfl rfl ?_
     exact fun w h => ⟨by simp [heq], h.below⟩
end Go.Proofs.YtgnablliekgbgaaGreatDoor
namespace Go.Proofs.YtgnablliekgbgaaGreatDoor
open Go Go.PL Go.RowKit
theorem eqWin : EqC Tryz.prog 2 24 true 2 (fun cs => cs.length = 2 ∧ (IntCell .i64 ((cs.drop 0).take 1) ∧ (IntCell .i64 ((cs.drop 1).take 1) ∧ True))) := by
  refine eqc_struct Tryz.underlying24 Tryz.ti24 zz8 ?_
  refine EqFs.cons (sz := 1) (W := IntCell .i64) zz8 rfl (eqc_int Tryz.underlying2 Tryz.ti2) ?_
  refine EqFs.cons (sz := 1) (W := IntCell .i64) zz8 rfl (eqc_int Tryz.underlying2 Tryz.ti2) ?_
  exact EqFs.nil _
def wnL (a b : Int) : List Value := [.int .i64 a, .int .i64 b]
theorem wnL_inj {a b c d : Int} (h : wnL a b = wnL c d) : a = c ∧ b = d := by
  unfold wnL at h
  obtain ⟨h1, h2⟩ := List.cons.inj h
  obtain ⟨h3, _⟩ := List.cons.inj h2
  exact ⟨(Value.int.inj h1).2, (Value.int.inj h3).2⟩
theorem q_eqWin {n : Cx} {R : World → Prop} {L : Slots} {t' : TypeId} {x y : Operand} {a b c d : Int} (hx : ev L x = some (.agg (wnL a b).toArray)) (hy : ev L y = some (.agg (wnL c d).toArray)) : QOp Tryz.prog n R L (.binOp .eql 24 x y t') (.bool (decide (a = c ∧ b = d))) :=
  q_eqA eqWin zz22 zz8 hx hy ⟨rfl, ⟨_, rfl⟩, ⟨_, rfl⟩, trivial⟩ ⟨rfl, ⟨_, rfl⟩, ⟨_, rfl⟩, trivial⟩ _ (by
    rw [decide_eq_true_eq]; exact ⟨fun e => by rw [e.1, e.2], wnL_inj⟩)
theorem sameSig (ix1 : Int) (cv1 pv1 : Value) (chs1 ps1 : List (List UInt8)) (ix2 : Int) (cv2 pv2 : Value) (chs2 ps2 : List (List UInt8)) (w : World) (hcv1 : Seen w.cell? cv1 chs1.length 16 (v8s chs1.flatten)) (hlc1 : ∀ x ∈ chs1, x.length = 16) (hpv1 : Seen w.cell? pv1 ps1.length 16 (v8s ps1.flatten)) (hlp1 : ∀ x ∈ ps1, x.length = 16) (hcv2 : Seen w.cell? cv2 chs2.length 16 (v8s chs2.flatten)) (hlc2 : ∀ x ∈ chs2, x.length = 16) (hpv2 : Seen w.cell? pv2 ps2.length 16 (v8s ps2.flatten)) (hlp2 : ∀ x ∈ ps2, x.length = 16)  :
    Calls Tryz.prog 22 [.agg #[.int .i64 ix1, cv1, pv1], .agg #[.int .i64 ix2, cv2, pv2]].toArray w (Pur w (.bool (decide (ix1 = ix2 ∧ chs1 = chs2 ∧ ps1 = ps2)))) := by
  haveI : OneC [.int .i64 ix1, cv1, pv1] := OneC.cons rfl (OneC.cons (SV.one hcv1.sv) (OneC.cons (SV.one hpv1.sv) oneC_nil))
  haveI : OneC [.int .i64 ix2, cv2, pv2] := OneC.cons rfl (OneC.cons (SV.one hcv2.sv) (OneC.cons (SV.one hpv2.sv) oneC_nil))
  refine enter (m := 24) (R := Mem w [] [] []) Tryz.func22 rfl rfl (Nat.le_of_ble_eq_true rfl) (Mem.start w) ?_
  refine wpc_seq <| wpc_region ?_
  refine wpl_t (t_box rfl [.int .i64 ix1, cv1, pv1] rfl) rfl (fun b2 => ?_)
  refine wpl_t (t_box rfl [.int .i64 ix2, cv2, pv2] rfl) rfl (fun b3 => ?_)
  refine wpl_q (q_pure rfl) rfl <| wpl_nil <| ex_then <| wpc_seq <| wpc_region <| wpl_q (q_field Tryz.underlying28 rfl Tryz.ti3 rfl rfl _ rfl) rfl ?_
  refine wpl_q (q_ld Tryz.underlying3 rfl rfl zz27) rfl ?_
  refine wpl_q (q_field Tryz.underlying28 rfl Tryz.ti3 rfl rfl _ rfl) rfl ?_
  refine wpl_q (q_ld Tryz.underlying3 rfl rfl zz27) rfl ?_
  refine wpl_q (q_pure rfl) rfl <| wpl_q (q_pure rfl) rfl ?_
  refine wpl_bool2 10 9 rfl rfl (fun hb10 => ?_) (fun hb10 => ?_)
  ·
   have e1 : ix1 = ix2 := by simpa using hb10
   refine wpl_on rfl rfl <| wpl_q (q_field Tryz.underlying28 rfl Tryz.ti26 rfl rfl _ rfl) rfl <| wpl_on rfl rfl <| wpl_q (q_ld Tryz.underlying26 rfl rfl rfl) rfl <| wpl_on rfl rfl <| wpl_q (q_field Tryz.underlying28 rfl Tryz.ti26 rfl rfl _ rfl) rfl <| wpl_on rfl rfl <| wpl_q (q_ld Tryz.underlying26 rfl rfl rfl) rfl <| wpl_on rfl rfl ?_
   refine wpl_t (t_pur Tryz.hb45 rfl fun w h => sameShorts cv1 chs1 cv2 chs2 w (h.seen_old hcv1) hlc1 (h.seen_old hcv2) hlc2) rfl (fun b15 => ?_)
   refine wpl_q (q_pure rfl) rfl <| wpl_q (q_pure rfl) rfl ?_
   refine wpl_bool2 17 15 rfl rfl (fun hb17 => ?_) (fun hb17 => ?_)
   ·
    have e2 : chs1 = chs2 := by simpa using hb17
    refine wpl_on rfl rfl <| wpl_q (q_field Tryz.underlying28 rfl Tryz.ti26 rfl rfl _ rfl) rfl <| wpl_on rfl rfl <| wpl_q (q_ld Tryz.underlying26 rfl rfl rfl) rfl <| wpl_on rfl rfl <| wpl_q (q_field Tryz.underlying28 rfl Tryz.ti26 rfl rfl _ rfl) rfl <| wpl_on rfl rfl <| wpl_q (q_ld Tryz.underlying26 rfl rfl rfl) rfl <| wpl_on rfl rfl ?_
    refine wpl_t (t_pur Tryz.hb45 rfl fun w h => sameShorts pv1 ps1 pv2 ps2 w (h.seen_old hpv1) hlp1 (h.seen_old hpv2) hlp2) rfl (fun b22 => ?_)
    refine wpl_q (q_pure rfl) rfl <| wpl_q (q_pure rfl) rfl <| wpl_nil <| ex_then <| wpc_ret ?_
    refine ret1 (.inl rfl) rfl rfl ?_
    exact fun w h => ⟨congrArg (fun b => Ending.returned (Value.bool b)) zz35, h.below⟩
   ·
    have e2 : ¬ chs1 = chs2 := by simpa using hb17
    refine wpl_off rfl rfl rfl rfl <| wpl_off rfl rfl rfl rfl <| wpl_off rfl rfl rfl rfl <| wpl_off rfl rfl rfl rfl <| wpl_off rfl rfl rfl rfl <| wpl_q (q_pure rfl) rfl <| wpl_q (q_pure rfl) rfl <| wpl_nil <| ex_then <| wpc_ret ?_
    refine ret1 (.inl rfl) rfl rfl ?_
    exact fun w h => ⟨congrArg (fun b => Ending.returned (Value.bool b)) zz35, h.below⟩
  ·
   have e1 : ¬ ix1 = ix2 := by simpa using hb10
   refine wpl_off rfl rfl rfl rfl <| wpl_off rfl rfl rfl rfl <| wpl_off rfl rfl rfl rfl <| wpl_off rfl rfl rfl rfl <| wpl_off rfl rfl rfl rfl <| wpl_q (q_pure rfl) rfl <| wpl_q (q_pure rfl) rfl <| wpl_off rfl rfl rfl rfl <| wpl_off rfl rfl rfl rfl <| wpl_off rfl rfl rfl rfl <| wpl_off rfl rfl rfl rfl <| wpl_off rfl rfl rfl rfl ?_
   refine wpl_q (q_pure rfl) rfl <| wpl_q (q_pure rfl) rfl <| wpl_nil <| ex_then <| wpc_ret ?_
   refine ret1 (.inl rfl) rfl rfl ?_
   exact fun w h => ⟨congrArg (fun b => Ending.returned (Value.bool b)) zz35, h.below⟩
theorem refRvSame (a : Rv) (b : Rv) (w : World) (hla : a.seen w.cell?) (hlb : b.seen w.cell?)  :
    Calls Tryz.prog 8 [.agg a.c.toArray, .agg b.c.toArray].toArray w (Pur w (.bool (decide (a.eqv b)))) := by
  haveI := hla.svs.one
  haveI := hlb.svs.one
  refine enter (m := 38) (R := Mem w [] [] []) Tryz.func8 rfl rfl (Nat.le_of_ble_eq_true rfl) (Mem.start w) ?_
  refine wpc_seq <| wpc_region ?_
  refine wpl_t (t_box rfl a.c rfl) rfl (fun b2 => ?_)
  refine wpl_t (t_box rfl b.c rfl) rfl (fun b3 => ?_)
  refine wpl_q (q_pure rfl) rfl <| wpl_nil <| ex_then <| wpc_seq <| wpc_region <| wpl_q (q_field Tryz.underlying30 rfl Tryz.ti9 rfl rfl _ rfl) rfl <| wpl_q (q_ld Tryz.underlying9 rfl rfl (show a.c[0]? = some (str a.nm) from rfl)) rfl <| wpl_q (q_field Tryz.underlying30 rfl Tryz.ti9 rfl rfl _ rfl) rfl <| wpl_q (q_ld Tryz.underlying9 rfl rfl (show b.c[0]? = some (str b.nm) from rfl)) rfl ?_
  refine wpl_q (q_strEq Tryz.underlying9 rfl rfl zz8) rfl ?_
  refine wpl_q (q_pure rfl) rfl ?_
  refine wpl_bool2 10 9 rfl rfl (fun hb10 => ?_) (fun hb10 => ?_)
  ·
   have e1 : a.nm = b.nm := by simpa using hb10
   refine wpl_on rfl rfl <| wpl_q (q_field Tryz.underlying30 rfl Tryz.ti22 rfl rfl _ rfl) rfl <| wpl_on rfl rfl <| wpl_q (q_ld Tryz.underlying22 rfl rfl (show a.c[1]? = some (.int .u64 (a.no.toNat : Int)) from rfl)) rfl <| wpl_on rfl rfl <| wpl_q (q_field Tryz.underlying30 rfl Tryz.ti22 rfl rfl _ rfl) rfl <| wpl_on rfl rfl <| wpl_q (q_ld Tryz.underlying22 rfl rfl (show b.c[1]? = some (.int .u64 (b.no.toNat : Int)) from rfl)) rfl <| wpl_on rfl rfl <| wpl_q (q64_eql rfl rfl) rfl <| wpl_q (q_pure rfl) rfl <| wpl_q (q_pure rfl) rfl ?_
   refine wpl_bool2 17 15 rfl rfl (fun hb17 => ?_) (fun hb17 => ?_)
   ·
    have e2 : a.no = b.no := by simpa using hb17
    refine wpl_on rfl rfl <| wpl_q (q_field Tryz.underlying30 rfl Tryz.ti24 rfl rfl _ rfl) rfl <| wpl_on rfl rfl <| wpl_q (q_ldP Tryz.underlying24 rfl Tryz.ti24 rfl (wnL a.fr a.tt) rfl rfl) rfl <| wpl_on rfl rfl <| wpl_q (q_field Tryz.underlying30 rfl Tryz.ti24 rfl rfl _ rfl) rfl <| wpl_on rfl rfl <| wpl_q (q_ldP Tryz.underlying24 rfl Tryz.ti24 rfl (wnL b.fr b.tt) rfl rfl) rfl <| wpl_on rfl rfl <| wpl_q (q_eqWin rfl rfl) rfl <| wpl_q (q_pure rfl) rfl <| wpl_q (q_pure rfl) rfl ?_
    refine wpl_bool2 24 22 rfl rfl (fun hb24 => ?_) (fun hb24 => ?_)
    ·
     have e3 : (a.fr = b.fr ∧ a.tt = b.tt) := by simpa using hb24
     refine wpl_on rfl rfl <| wpl_q (q_field Tryz.underlying30 rfl Tryz.ti25 rfl rfl _ rfl) rfl <| wpl_on rfl rfl <| wpl_q (q_ld Tryz.underlying25 rfl rfl (show a.c[4]? = some (a.sv) from rfl)) rfl <| wpl_on rfl rfl <| wpl_q (q_field Tryz.underlying30 rfl Tryz.ti25 rfl rfl _ rfl) rfl <| wpl_on rfl rfl <| wpl_q (q_ld Tryz.underlying25 rfl rfl (show b.c[4]? = some (b.sv) from rfl)) rfl <| wpl_on rfl rfl ?_
     refine wpl_t (t_pur Tryz.hb21 rfl fun w h => sameNumbers a.sv a.ss b.sv b.ss w (h.seen_old hla.s) (h.seen_old hlb.s)) rfl (fun b29 => ?_)
     refine wpl_q (q_pure rfl) rfl <| wpl_q (q_pure rfl) rfl ?_
     refine wpl_bool2 31 29 rfl rfl (fun hb31 => ?_) (fun hb31 => ?_)
     ·
      have e4 : a.ss = b.ss := by simpa using hb31
      refine wpl_on rfl rfl <| wpl_q (q_field Tryz.underlying30 rfl Tryz.ti28 rfl rfl _ rfl) rfl <| wpl_on rfl rfl <| wpl_q (q_ldP Tryz.underlying28 rfl Tryz.ti28 rfl a.sig rfl rfl) rfl <| wpl_on rfl rfl <| wpl_q (q_field Tryz.underlying30 rfl Tryz.ti28 rfl rfl _ rfl) rfl <| wpl_on rfl rfl <| wpl_q (q_ldP Tryz.underlying28 rfl Tryz.ti28 rfl b.sig rfl rfl) rfl <| wpl_on rfl rfl ?_
      refine wpl_t (t_pur Tryz.hb22 rfl fun w h => sameSig a.ix a.cv a.pv a.chs a.ps b.ix b.cv b.pv b.chs b.ps w (h.seen_old hla.c) hla.lc (h.seen_old hla.p) hla.lp (h.seen_old hlb.c) hlb.lc (h.seen_old hlb.p) hlb.lp) rfl (fun b36 => ?_)
      refine wpl_q (q_pure rfl) rfl <| wpl_q (q_pure rfl) rfl <| wpl_nil <| ex_then <| wpc_ret ?_
      refine ret1 (.inl rfl) rfl rfl ?_
      exact fun w h => ⟨congrArg (fun b => Ending.returned (Value.bool b)) zz23, h.below⟩
     ·
      have e4 : ¬ a.ss = b.ss := by simpa using hb31
      refine wpl_off rfl rfl rfl rfl <| wpl_off rfl rfl rfl rfl <| wpl_off rfl rfl rfl rfl <| wpl_off rfl rfl rfl rfl <| wpl_off rfl rfl rfl rfl <| wpl_q (q_pure rfl) rfl <| wpl_q (q_pure rfl) rfl <| wpl_nil <| ex_then <| wpc_ret ?_
      refine ret1 (.inl rfl) rfl rfl ?_
      exact fun w h => ⟨congrArg (fun b => Ending.returned (Value.bool b)) zz23, h.below⟩
    ·
     have e3 : ¬ (a.fr = b.fr ∧ a.tt = b.tt) := by simpa using hb24
     refine wpl_off rfl rfl rfl rfl <| wpl_off rfl rfl rfl rfl <| wpl_off rfl rfl rfl rfl <| wpl_off rfl rfl rfl rfl <| wpl_off rfl rfl rfl rfl <| wpl_q (q_pure rfl) rfl <| wpl_q (q_pure rfl) rfl <| wpl_off rfl rfl rfl rfl <| wpl_off rfl rfl rfl rfl <| wpl_off rfl rfl rfl rfl <| wpl_off rfl rfl rfl rfl <| wpl_off rfl rfl rfl rfl ?_
     refine wpl_q (q_pure rfl) rfl <| wpl_q (q_pure rfl) rfl <| wpl_nil <| ex_then <| wpc_ret ?_
     refine ret1 (.inl rfl) rfl rfl ?_
     exact fun w h => ⟨congrArg (fun b => Ending.returned (Value.bool b)) zz23, h.below⟩
   ·
    have e2 : ¬ a.no = b.no := by simpa using hb17
    refine wpl_off rfl rfl rfl rfl <| wpl_off rfl rfl rfl rfl <| wpl_off rfl rfl rfl rfl <| wpl_off rfl rfl rfl rfl <| wpl_off rfl rfl rfl rfl <| wpl_q (q_pure rfl) rfl <| wpl_q (q_pure rfl) rfl <| wpl_off rfl rfl rfl rfl <| wpl_off rfl rfl rfl rfl <| wpl_off rfl rfl rfl rfl <| wpl_off rfl rfl rfl rfl <| wpl_off rfl rfl rfl rfl ?_
    refine wpl_q (q_pure rfl) rfl <| wpl_q (q_pure rfl) rfl <| wpl_off rfl rfl rfl rfl <| wpl_off rfl rfl rfl rfl <| wpl_off rfl rfl rfl rfl <| wpl_off rfl rfl rfl rfl <| wpl_off rfl rfl rfl rfl <| wpl_q (q_pure rfl) rfl <| wpl_q (q_pure rfl) rfl <| wpl_nil <| ex_then <| wpc_ret ?_
    refine ret1 (.inl rfl) rfl rfl ?_
    exact fun w h => ⟨congrArg (fun b => Ending.returned (Value.bool b)) zz23, h.below⟩
  ·
   have e1 : ¬ a.nm = b.nm := by simpa using hb10
   refine wpl_off rfl rfl rfl rfl <| wpl_off rfl rfl rfl rfl <| wpl_off rfl rfl rfl rfl <| wpl_off rfl rfl rfl rfl <| wpl_off rfl rfl rfl rfl <| wpl_q (q_pure rfl) rfl <| wpl_q (q_pure rfl) rfl <| wpl_off rfl rfl rfl rfl <| wpl_off rfl rfl rfl rfl <| wpl_off rfl rfl rfl rfl <| wpl_off rfl rfl rfl rfl <| wpl_off rfl rfl rfl rfl ?_
   refine wpl_q (q_pure rfl) rfl <| wpl_q (q_pure rfl) rfl <| wpl_off rfl rfl rfl rfl <| wpl_off rfl rfl rfl rfl <| wpl_off rfl rfl rfl rfl <| wpl_off rfl rfl rfl rfl <| wpl_off rfl rfl rfl rfl <| wpl_q (q_pure rfl) rfl <| wpl_q (q_pure rfl) rfl <| wpl_off rfl rfl rfl rfl <| wpl_off rfl rfl rfl rfl <| wpl_off rfl rfl rfl rfl ?_
   refine wpl_off rfl rfl rfl rfl <| wpl_off rfl rfl rfl rfl <| wpl_q (q_pure rfl) rfl <| wpl_q (q_pure rfl) rfl <| wpl_nil <| ex_then <| wpc_ret ?_
   refine ret1 (.inl rfl) rfl rfl ?_
   exact fun w h => ⟨congrArg (fun b => Ending.returned (Value.bool b)) zz23, h.below⟩
theorem greatSig (ix : Int) (cv pv : Value) (chs ps : List (List UInt8)) (w : World) (hcv : SV cv chs.length) (hpv : SV pv ps.length)  :
    Calls Tryz.prog 12 [.agg #[.int .i64 ix, cv, pv]].toArray w (Pur w (.bool (decide (60 < chs.length) || decide (60 < ps.length)))) := by
  haveI : OneC [.int .i64 ix, cv, pv] := OneC.cons rfl (OneC.cons (SV.one hcv) (OneC.cons (SV.one hpv) oneC_nil))
  have lcv := hcv.le
  have lpv := hpv.le
  simp only [maxLen] at lcv lpv
  refine enter (m := 13) (R := Mem w [] [] []) Tryz.func12 rfl rfl (Nat.le_of_ble_eq_true rfl) (Mem.start w) ?_
  refine wpc_seq <| wpc_region ?_
  refine wpl_t (t_box rfl [.int .i64 ix, cv, pv] rfl) rfl (fun b1 => ?_)
  refine wpl_q (q_pure rfl) rfl <| wpl_nil <| ex_then <| wpc_seq <| wpc_region <| wpl_q (q_field Tryz.underlying28 rfl Tryz.ti26 rfl rfl _ rfl) rfl <| wpl_q (q_ld Tryz.underlying26 rfl rfl rfl) rfl ?_
  refine wpl_q (q_lenW Tryz.underlying26 rfl zz5) rfl ?_
  refine wpl_q (q_pure rfl) rfl <| wpl_q (q_pure rfl) rfl ?_
  refine wpl_bool2 7 6 rfl rfl (fun hb7 => ?_) (fun hb7 => ?_)
  ·
   try simp only [decide_eq_true_eq, decide_eq_false_iff_not, Bool.and_eq_true, Bool.or_eq_true, beq_iff_eq, bne_iff_ne, ne_eq, Bool.not_eq_true', Bool.not_eq_false', Decidable.not_not] at hb7
   refine wpl_off rfl rfl rfl rfl <| wpl_off rfl rfl rfl rfl <| wpl_off rfl rfl rfl rfl <| wpl_off rfl rfl rfl rfl <| wpl_q (q_pure rfl) rfl <| wpl_q (q_pure rfl) rfl <| wpl_nil <| ex_then <| wpc_ret ?_
   refine ret1 (.inl rfl) rfl rfl ?_
   exact fun w h => ⟨congrArg (fun b => Ending.returned (Value.bool b)) (by (try simp only [decide_eq_true_eq, decide_eq_false_iff_not, gt_iff_lt] at *); rw [Bool.eq_iff_iff]; simp only [Bool.or_eq_true, decide_eq_true_eq, true_iff]; omega), h.below⟩
  ·
   try simp only [decide_eq_true_eq, decide_eq_false_iff_not, Bool.and_eq_true, Bool.or_eq_true, beq_iff_eq, bne_iff_ne, ne_eq, Bool.not_eq_true', Bool.not_eq_false', Decidable.not_not] at hb7
   refine wpl_on rfl rfl <| wpl_q (q_field Tryz.underlying28 rfl Tryz.ti26 rfl rfl _ rfl) rfl <| wpl_on rfl rfl <| wpl_q (q_ld Tryz.underlying26 rfl rfl rfl) rfl <| wpl_on rfl rfl ?_
   refine wpl_q (q_lenW Tryz.underlying26 rfl zz5) rfl ?_
   refine wpl_on rfl rfl <| wpl_q (q_pure rfl) rfl <| wpl_q (q_pure rfl) rfl <| wpl_q (q_pure rfl) rfl <| wpl_nil <| ex_then <| wpc_ret ?_
   refine ret1 (.inl rfl) rfl rfl ?_
   exact fun w h => ⟨congrArg (fun b => Ending.returned (Value.bool b)) (by (try simp only [decide_eq_true_eq, decide_eq_false_iff_not, gt_iff_lt] at *); rw [Bool.eq_iff_iff]; simp only [Bool.or_eq_true, decide_eq_true_eq, true_iff]; omega), h.below⟩
theorem refRvGreat (l : Rv) (w : World) (hl : l.seen w.cell?) (hnl : l.nm.length ≤ maxLen)  :
    Calls Tryz.prog 4 [.agg l.c.toArray].toArray w (Pur w (.bool (bigR l))) := by
  haveI := hl.svs.one
  have lss := hl.s.sv.le
  have lcs := hl.c.sv.le
  have lps := hl.p.sv.le
  have sss := hl.s.sv
  have scs := hl.c.sv
  have sps := hl.p.sv
  simp only [maxLen] at lss lcs lps
  refine enter (m := 18) (R := Mem w [] [] []) Tryz.func4 rfl rfl (Nat.le_of_ble_eq_true rfl) (Mem.start w) ?_
  refine wpc_seq <| wpc_region ?_
  refine wpl_t (t_box rfl l.c rfl) rfl (fun b1 => ?_)
  refine wpl_q (q_pure rfl) rfl <| wpl_nil <| ex_then <| wpc_seq <| wpc_region <| wpl_q (q_field Tryz.underlying30 rfl Tryz.ti9 rfl rfl _ rfl) rfl <| wpl_q (q_ld Tryz.underlying9 rfl rfl (show l.c[0]? = some (str l.nm) from rfl)) rfl <| wpl_q (q_lenS Tryz.underlying9 rfl) rfl <| wpl_q (q_pure rfl) rfl <| wpl_q (q_pure rfl) rfl ?_
  refine wpl_bool2 7 6 rfl rfl (fun hb7 => ?_) (fun hb7 => ?_)
  ·
   have g1 : 500 < l.nm.length := by have := of_decide_eq_true hb7; omega
   refine wpl_off rfl rfl rfl rfl <| wpl_off rfl rfl rfl rfl <| wpl_off rfl rfl rfl rfl <| wpl_off rfl rfl rfl rfl <| wpl_q (q_pure rfl) rfl <| wpl_q (q_pure rfl) rfl <| wpl_off rfl rfl rfl rfl <| wpl_off rfl rfl rfl rfl <| wpl_off rfl rfl rfl rfl <| wpl_q (q_pure rfl) rfl <| wpl_q (q_pure rfl) rfl <| wpl_nil ?_
   refine ex_then <| wpc_ret ?_
   refine ret1 (.inl rfl) rfl rfl ?_
   exact fun w h => ⟨congrArg (fun b => Ending.returned (Value.bool b)) zz42, h.below⟩
  ·
   have g1 : ¬ 500 < l.nm.length := by have := of_decide_eq_false hb7; omega
   refine wpl_on rfl rfl <| wpl_q (q_field Tryz.underlying30 rfl Tryz.ti25 rfl rfl _ rfl) rfl <| wpl_on rfl rfl <| wpl_q (q_ld Tryz.underlying25 rfl rfl (show l.c[4]? = some (l.sv) from rfl)) rfl <| wpl_on rfl rfl ?_
   refine wpl_q (q_lenW Tryz.underlying25 rfl zz5) rfl ?_
   refine wpl_on rfl rfl <| wpl_q (q_pure rfl) rfl <| wpl_q (q_pure rfl) rfl <| wpl_q (q_pure rfl) rfl ?_
   refine wpl_bool2 13 11 rfl rfl (fun hb13 => ?_) (fun hb13 => ?_)
   ·
    have g2 : 520 < l.ss.length := by have := of_decide_eq_true hb13; omega
    refine wpl_off rfl rfl rfl rfl <| wpl_off rfl rfl rfl rfl <| wpl_off rfl rfl rfl rfl <| wpl_q (q_pure rfl) rfl <| wpl_q (q_pure rfl) rfl <| wpl_nil <| ex_then <| wpc_ret ?_
    refine ret1 (.inl rfl) rfl rfl ?_
    exact fun w h => ⟨congrArg (fun b => Ending.returned (Value.bool b)) zz42, h.below⟩
   ·
    have g2 : ¬ 520 < l.ss.length := by have := of_decide_eq_false hb13; omega
    refine wpl_on rfl rfl <| wpl_q (q_field Tryz.underlying30 rfl Tryz.ti28 rfl rfl _ rfl) rfl <| wpl_on rfl rfl <| wpl_q (q_ldP Tryz.underlying28 rfl Tryz.ti28 rfl l.sig rfl rfl) rfl <| wpl_on rfl rfl ?_
    refine wpl_t (t_pur Tryz.hb12 rfl fun w h => greatSig l.ix l.cv l.pv l.chs l.ps w scs sps) rfl (fun b16 => ?_)
    refine wpl_q (q_pure rfl) rfl <| wpl_q (q_pure rfl) rfl <| wpl_nil <| ex_then <| wpc_ret ?_
    refine ret1 (.inl rfl) rfl rfl ?_
    exact fun w h => ⟨congrArg (fun b => Ending.returned (Value.bool b)) zz42, h.below⟩
end Go.Proofs.YtgnablliekgbgaaGreatDoor
namespace Go.Proofs.YtgnablliekgbgaaGreatDoor
open Go Go.PL Go.RowKit
theorem cl_nil {a : Option Addr} {cap : Nat} {sz : Nat} {n : Nat} {cs : List Value} {r : Rd} (h : Seen r (.slice a n cap) n sz cs) (hn : a.isNone = true) : n = 0 := by
  obtain ⟨a', cap', e, h1, h2, h3⟩ := h.sv
  simp only [Value.slice.injEq] at e
  obtain ⟨rfl, _, rfl⟩ := e
  have := h3 (by simpa using hn)
  omega
theorem clone640 (a : Option Addr) (cap : Nat) (l : List UInt64) (w : World) (hav : Seen w.cell? (.slice a l.length cap) l.length 1 (v64s l)) (hl : l.length ≤ 1000) :
    Calls Tryz.prog 25 [.slice a l.length cap].toArray w (GivesP w (fun v => SV v l.length) (fun v => v) (fun v => [.row v l.length 22 1 (v64s l)]) (fun _ => [])) := by
  have sav := hav.sv
  refine enter (m := 8) (R := Mem w [] [] []) Tryz.func25 rfl rfl (Nat.le_of_ble_eq_true rfl) (Mem.start w) ?_
  refine wpc_seq <| wpc_region <| wpl_q (q_pure rfl) rfl <| wpl_nil <| ex_then <| wpc_seq <| wpc_seq <| wpc_region <| wpl_q (q_pure rfl) rfl ?_
  refine wpl_q (q_slNil Tryz.underlying25 rfl rfl zz8) rfl ?_
  refine wpl_nil <| ex_then ?_
  refine wpc_cond rfl (fun hc4 => ?_) (fun hc4 => ?_)
  ·
   have h0 := cl_nil hav hc4
   have hx0 := List.eq_nil_of_length_eq_zero h0
   subst hx0
   refine wpc_seq <| wpc_region <| wpl_q (q_pure rfl) rfl <| wpl_nil <| ex_then <| wpc_ret ?_
   refine ex_then_ret ?_
   refine ret1 (.inl rfl) rfl rfl ?_
   exact fun w h => ⟨.slice none 0 0, SV.nil, rfl, h.below, (h.nilRow 22 1).made zz6 .nil⟩
  ·
   refine wpc_skip <| ex_then <| wpc_seq <| wpc_region ?_
   refine wpl_tp (t_bs0W Tryz.underlying25 Tryz.ti22) rfl (fun b5 p5 => ?_)
   refine wpl_q (q_pure rfl) rfl ?_
   refine wpl_tp (t_ap0 Tryz.underlying25 Tryz.ti22 rfl zz22 rfl rfl (fun w h => h.seen_old hav) (v64s_one _) zz1 zz1) rfl (fun b7 p7 => ?_)
   refine wpl_q (q_pure rfl) rfl <| wpl_nil <| ex_then <| wpc_ret ?_
   refine ret1 (.inl rfl) rfl rfl ?_
   exact fun w h => ⟨b7, p7, rfl, h.below, h.made SubC.h .nil⟩
theorem cloneS0 (a : Option Addr) (cap : Nat) (l : List (List UInt8)) (w : World) (hav : Seen w.cell? (.slice a l.length cap) l.length 16 (v8s l.flatten)) (hll : ∀ x ∈ l, x.length = 16) (hl : l.length ≤ 1000) :
    Calls Tryz.prog 26 [.slice a l.length cap].toArray w (GivesP w (fun v => SV v l.length) (fun v => v) (fun v => [.row v l.length 32 16 (v8s l.flatten)]) (fun _ => [])) := by
  have sav := hav.sv
  refine enter (m := 8) (R := Mem w [] [] []) Tryz.func26 rfl rfl (Nat.le_of_ble_eq_true rfl) (Mem.start w) ?_
  refine wpc_seq <| wpc_region <| wpl_q (q_pure rfl) rfl <| wpl_nil <| ex_then <| wpc_seq <| wpc_seq <| wpc_region <| wpl_q (q_pure rfl) rfl ?_
  refine wpl_q (q_slNil Tryz.underlying26 rfl rfl zz8) rfl ?_
  refine wpl_nil <| ex_then ?_
  refine wpc_cond rfl (fun hc4 => ?_) (fun hc4 => ?_)
  ·
   have h0 := cl_nil hav hc4
   have hx0 := List.eq_nil_of_length_eq_zero h0
   subst hx0
   refine wpc_seq <| wpc_region <| wpl_q (q_pure rfl) rfl <| wpl_nil <| ex_then <| wpc_ret ?_
   refine ex_then_ret ?_
   refine ret1 (.inl rfl) rfl rfl ?_
   exact fun w h => ⟨.slice none 0 0, SV.nil, rfl, h.below, (h.nilRow 32 16).made zz6 .nil⟩
  ·
   refine wpc_skip <| ex_then <| wpc_seq <| wpc_region ?_
   refine wpl_tp (t_bs0W Tryz.underlying26 Tryz.ti32) rfl (fun b5 p5 => ?_)
   refine wpl_q (q_pure rfl) rfl ?_
   refine wpl_tp (t_ap0 Tryz.underlying26 Tryz.ti32 rfl zz22 rfl rfl (fun w h => h.seen_old hav) (v8s_one _) zz1 zz1) rfl (fun b7 p7 => ?_)
   refine wpl_q (q_pure rfl) rfl <| wpl_nil <| ex_then <| wpc_ret ?_
   refine ret1 (.inl rfl) rfl rfl ?_
   exact fun w h => ⟨b7, p7, rfl, h.below, h.made SubC.h .nil⟩
theorem clone64 (v : Value) (l : List UInt64) (w : World) (h : Seen w.cell? v l.length 1 (v64s l)) (hl : l.length ≤ 1000) : Calls Tryz.prog 25 [v].toArray w (GivesP w (fun v => SV v l.length) (fun v => v) (fun v => [.row v l.length 22 1 (v64s l)]) (fun _ => [])) := by
  obtain ⟨a, cap, rfl, _⟩ := h.sv
  exact clone640 a cap l w h hl
theorem cloneS (v : Value) (l : List (List UInt8)) (w : World) (h : Seen w.cell? v l.length 16 (v8s l.flatten)) (hll : ∀ x ∈ l, x.length = 16) (hl : l.length ≤ 1000) : Calls Tryz.prog 26 [v].toArray w (GivesP w (fun v => SV v l.length) (fun v => v) (fun v => [.row v l.length 32 16 (v8s l.flatten)]) (fun _ => [])) := by
  obtain ⟨a, cap, rfl, _⟩ := h.sv
  exact cloneS0 a cap l w h hll hl
def Rv.ws (l : Rv) (v : Value) : Rv := { l with sv := v }
def Rv.wc (l : Rv) (v : Value) : Rv := { l with cv := v }
def Rv.wp (l : Rv) (v : Value) : Rv := { l with pv := v }
abbrev V3 := Value × Value × Value
abbrev Rv.re (l : Rv) (x : V3) : Rv := ((l.ws x.1).wc x.2.1).wp x.2.2
theorem Rv.s_s (l : Rv) (v : Value) : l.c.set 4 v = (l.ws v).c := rfl
theorem Rv.s_c (l : Rv) (v : Value) : l.c.set 6 v = (l.wc v).c := rfl
theorem Rv.s_p (l : Rv) (v : Value) : l.c.set 7 v = (l.wp v).c := rfl
theorem re_seen {l : Rv} {r : Rd} {x : V3} (h1 : Seen r x.1 l.ss.length 1 (v64s l.ss)) (h2 : Seen r x.2.1 l.chs.length 16 (v8s l.chs.flatten)) (h3 : Seen r x.2.2 l.ps.length 16 (v8s l.ps.flatten)) (hc : ∀ y ∈ l.chs, y.length = 16) (hp : ∀ y ∈ l.ps, y.length = 16) : (l.re x).seen r := ⟨h1, h2, hc, h3, hp⟩
theorem re_eqv (l : Rv) (x : V3) : l.eqv (l.re x) := ⟨rfl, rfl, ⟨rfl, rfl⟩, rfl, rfl, rfl, rfl⟩
end Go.Proofs.YtgnablliekgbgaaGreatDoor
namespace Go.Proofs.YtgnablliekgbgaaGreatDoor
open Go Go.PL Go.RowKit
theorem built_sig {v1 v2 : Value} {n1 n2 : Nat} (h1 : SV v1 n1) (h2 : SV v2 n2) (idx : Int) : Tryz.prog.built 28 [(0, .int .i64 idx), (1, v1), (2, v2)] = some #[.int .i64 idx, v1, v2] := by
  obtain ⟨a1, c1, rfl, _⟩ := h1
  obtain ⟨a2, c2, rfl, _⟩ := h2
  kernel_rfl
theorem sig_one {v1 v2 : Value} {n1 n2 : Nat} (h1 : SV v1 n1) (h2 : SV v2 n2) (idx : Int) : ∀ u ∈ [Value.int .i64 idx, v1, v2], u.oneCell' = true := by
  intro u hu
  simp only [List.mem_cons, List.not_mem_nil, or_false] at hu
  rcases hu with rfl | rfl | rfl
  · rfl
  · exact h1.one
  · exact h2.one
theorem twinSig (idx : Int) (cv pv : Value) (chs ps : List (List UInt8)) (w : World) (hcv : Seen w.cell? cv chs.length 16 (v8s chs.flatten)) (hlchs : ∀ x ∈ chs, x.length = 16) (hpv : Seen w.cell? pv ps.length 16 (v8s ps.flatten)) (hlps : ∀ x ∈ ps, x.length = 16) (hnc : chs.length ≤ 200) (hnp : ps.length ≤ 200) :
    Calls Tryz.prog 13 [.agg #[.int .i64 idx, cv, pv]].toArray w (GivesP w (fun x : Value × Value => SV x.1 chs.length ∧ SV x.2 ps.length) (fun x : Value × Value => .agg #[.int .i64 idx, x.1, x.2]) (fun x => [.row x.1 chs.length 32 16 (v8s chs.flatten), .row x.2 ps.length 32 16 (v8s ps.flatten)]) (fun _ => [])) := by
  have scv := hcv.sv
  have spv := hpv.sv
  have lcv := scv.le
  have lpv := spv.le
  simp only [maxLen] at lcv lpv
  haveI : OneC [.int .i64 idx, cv, pv] := OneC.cons rfl (OneC.cons (SV.one scv) (OneC.cons (SV.one spv) oneC_nil))
  refine enter (m := 14) (R := Mem w [] [] []) Tryz.func13 rfl rfl (Nat.le_of_ble_eq_true rfl) (Mem.start w) ?_
  refine wpc_seq <| wpc_region ?_
  refine wpl_t (t_box rfl [.int .i64 idx, cv, pv] rfl) rfl (fun b1 => ?_)
  refine wpl_t (t_alloc Tryz.ti28 [.int .i64 0, .slice none 0 0, .slice none 0 0] rfl) rfl (fun b2 => ?_)
  refine wpl_nil <| ex_then <| wpc_seq ?_
  refine wpc_draw 11 zz8 (fun _ h => h.drew) ?_
  refine wpd_p 0 rfl zz8 trivial (q_field Tryz.underlying28 rfl Tryz.ti3 rfl rfl _ rfl) rfl sk0 ?_
  refine wpd_q 1 rfl zz8 trivial (q_ld Tryz.underlying3 rfl rfl zz27) rfl (fun _ h => h) ?_
  refine wpd_p 3 rfl zz8 trivial (q_field Tryz.underlying28 rfl Tryz.ti26 rfl rfl _ rfl) rfl sk0 ?_
  refine wpd_q 4 rfl zz8 trivial (q_ld Tryz.underlying26 rfl rfl rfl) rfl (fun _ h => h) ?_
  refine wpd_p 7 rfl zz8 trivial (q_field Tryz.underlying28 rfl Tryz.ti26 rfl rfl _ rfl) rfl sk0 ?_
  refine wpd_q 8 rfl zz8 trivial (q_ld Tryz.underlying26 rfl rfl rfl) rfl (fun _ h => h) ?_
  refine wpd_two 2 6 zz8 ?_ ?_
  ·
   refine wpa_tp 2 rfl trivial (t_bs0W Tryz.underlying26 Tryz.ti32) rfl (fun _ => (fun w h => .inr (h.sub SubC.h SubC.h))) (fun b5 p5 => ?_)
   refine wpd_two 5 6 zz8 ?_ ?_
   ·
    refine wpa_tp 5 rfl trivial (t_ap0 Tryz.underlying26 Tryz.ti32 rfl zz22 rfl rfl (fun w h => h.seen_old hcv) (v8s_one _) zz1 zz1) rfl (fun _ => (fun w h => .inr (h.sub SubC.h SubC.h))) (fun b8 p8 => ?_)
    refine wpd_tp 6 rfl zz8 trivial (t_bs0W Tryz.underlying26 Tryz.ti32) rfl (fun _ => (fun w h => .inr (h.sub SubC.h SubC.h))) (fun b9 p9 => ?_)
    refine wpd_tp 9 rfl zz8 trivial (t_ap0 Tryz.underlying26 Tryz.ti32 rfl zz22 rfl rfl (fun w h => h.seen_old hpv) (v8s_one _) zz1 zz1) rfl (fun _ => (fun w h => .inr (h.sub SubC.h SubC.h))) (fun b12 p12 => ?_)
    refine wpd_p 10 rfl zz8 trivial (q_build (cs := [.int .i64 idx, b8, b12]) rfl (built_sig p8 p12 idx)) rfl (fun w h => .inr (h.sub SubC.h SubC.h)) ?_
    refine wpd_t0 11 rfl zz8 trivial (t_stA Tryz.ti28 rfl rfl rfl (sig_one p8 p12 idx) rfl) (fun _ => skk rfl) (fun _ => ?_)
    refine wpd_done zz8 ?_
    refine ex_then <| wpc_ret ?_
    refine retv1 (.inl rfl) rfl (rv_agg Tryz.underlying28 rfl Tryz.ti28 rfl (fun w h => h.atB) rfl) ?_
    exact fun w h => ⟨(b8, b12), ⟨p8, p12⟩, rfl, h.below, zz46⟩
   ·
    refine wpa_tp 6 rfl trivial (t_bs0W Tryz.underlying26 Tryz.ti32) rfl (fun _ => (fun w h => .inr (h.sub SubC.h SubC.h))) (fun b9 p9 => ?_)
    refine wpd_tp 5 rfl zz8 trivial (t_ap0 Tryz.underlying26 Tryz.ti32 rfl zz22 rfl rfl (fun w h => h.seen_old hcv) (v8s_one _) zz1 zz1) rfl (fun _ => (fun w h => .inr (h.sub SubC.h SubC.h))) (fun b8 p8 => ?_)
    refine wpd_tp 9 rfl zz8 trivial (t_ap0 Tryz.underlying26 Tryz.ti32 rfl zz22 rfl rfl (fun w h => h.seen_old hpv) (v8s_one _) zz1 zz1) rfl (fun _ => (fun w h => .inr (h.sub SubC.h SubC.h))) (fun b12 p12 => ?_)
    refine wpd_p 10 rfl zz8 trivial (q_build (cs := [.int .i64 idx, b8, b12]) rfl (built_sig p8 p12 idx)) rfl (fun w h => .inr (h.sub SubC.h SubC.h)) ?_
    refine wpd_t0 11 rfl zz8 trivial (t_stA Tryz.ti28 rfl rfl rfl (sig_one p8 p12 idx) rfl) (fun _ => skk rfl) (fun _ => ?_)
    refine wpd_done zz8 ?_
    refine ex_then <| wpc_ret ?_
    refine retv1 (.inl rfl) rfl (rv_agg Tryz.underlying28 rfl Tryz.ti28 rfl (fun w h => h.atB) rfl) ?_
    exact fun w h => ⟨(b8, b12), ⟨p8, p12⟩, rfl, h.below, zz46⟩
  ·
   refine wpa_tp 6 rfl trivial (t_bs0W Tryz.underlying26 Tryz.ti32) rfl (fun _ => (fun w h => .inr (h.sub SubC.h SubC.h))) (fun b9 p9 => ?_)
   refine wpd_tp 2 rfl zz8 trivial (t_bs0W Tryz.underlying26 Tryz.ti32) rfl (fun _ => (fun w h => .inr (h.sub SubC.h SubC.h))) (fun b5 p5 => ?_)
   refine wpd_tp 5 rfl zz8 trivial (t_ap0 Tryz.underlying26 Tryz.ti32 rfl zz22 rfl rfl (fun w h => h.seen_old hcv) (v8s_one _) zz1 zz1) rfl (fun _ => (fun w h => .inr (h.sub SubC.h SubC.h))) (fun b8 p8 => ?_)
   refine wpd_tp 9 rfl zz8 trivial (t_ap0 Tryz.underlying26 Tryz.ti32 rfl zz22 rfl rfl (fun w h => h.seen_old hpv) (v8s_one _) zz1 zz1) rfl (fun _ => (fun w h => .inr (h.sub SubC.h SubC.h))) (fun b12 p12 => ?_)
   refine wpd_p 10 rfl zz8 trivial (q_build (cs := [.int .i64 idx, b8, b12]) rfl (built_sig p8 p12 idx)) rfl (fun w h => .inr (h.sub SubC.h SubC.h)) ?_
   refine wpd_t0 11 rfl zz8 trivial (t_stA Tryz.ti28 rfl rfl rfl (sig_one p8 p12 idx) rfl) (fun _ => skk rfl) (fun _ => ?_)
   refine wpd_done zz8 ?_
   refine ex_then <| wpc_ret ?_
   refine retv1 (.inl rfl) rfl (rv_agg Tryz.underlying28 rfl Tryz.ti28 rfl (fun w h => h.atB) rfl) ?_
   exact fun w h => ⟨(b8, b12), ⟨p8, p12⟩, rfl, h.below, zz46⟩
theorem refRvTwin (l : Rv) (w : World) (hl : l.seen w.cell?) (hnl : l.nm.length ≤ maxLen) (h5 : l.ss.length ≤ 520) (h6 : l.chs.length ≤ 60) (h7 : l.ps.length ≤ 60) :
    Calls Tryz.prog 5 [.agg l.c.toArray].toArray w (GivesP w (fun x : V3 => SV x.1 l.ss.length ∧ SV x.2.1 l.chs.length ∧ SV x.2.2 l.ps.length) (fun x => .agg (l.re x).c.toArray) (fun x => [.row x.1 l.ss.length 22 1 (v64s l.ss), .row x.2.1 l.chs.length 32 16 (v8s l.chs.flatten), .row x.2.2 l.ps.length 32 16 (v8s l.ps.flatten)]) (fun _ => [])) := by
  haveI := hl.svs.one
  have lss := hl.s.sv.le
  have lcs := hl.c.sv.le
  have lps := hl.p.sv.le
  have sss := hl.s.sv
  have scs := hl.c.sv
  have sps := hl.p.sv
  simp only [maxLen] at lss lcs lps
  refine enter (m := 13) (R := Mem w [] [] []) Tryz.func5 rfl rfl (Nat.le_of_ble_eq_true rfl) (Mem.start w) ?_
  refine wpc_seq <| wpc_region ?_
  refine wpl_t (t_box rfl l.c rfl) rfl (fun b1 => ?_)
  refine wpl_t (t_alloc Tryz.ti30 Rv.z.c rfl) rfl (fun b2 => ?_)
  refine wpl_nil <| ex_then <| wpc_seq <| wpc_region ?_
  refine wpl_tp (t_bs0W Tryz.underlying25 Tryz.ti22) rfl (fun b3 p3 => ?_)
  refine wpl_q (q_field Tryz.underlying30 rfl Tryz.ti25 rfl rfl _ rfl) rfl <| wpl_q (q_ld Tryz.underlying25 rfl rfl (show l.c[4]? = some (l.sv) from rfl)) rfl ?_
  refine wpl_tp (t_ap0 Tryz.underlying25 Tryz.ti22 rfl zz22 rfl rfl (fun w h => h.seen_old hl.s) (v64s_one _) zz1 zz1) rfl (fun b6 p6 => ?_)
  haveI : OneC (l.ws b6).c := Rv.svs.one (l := l.ws b6) ⟨p6, scs, sps⟩
  refine wpl_q (q_field Tryz.underlying30 rfl Tryz.ti25 rfl rfl _ rfl) rfl ?_
  refine wpl_t0 (t_st1 Tryz.ti25 rfl rfl (SV.one p6) (show 4 < 8 from zz22) _ (Rv.s_s _ _)) (fun _ => ?_)
  refine wpl_nil <| ex_then <| wpc_seq <| wpc_region <| wpl_q (q_field Tryz.underlying30 rfl Tryz.ti28 rfl rfl _ rfl) rfl <| wpl_q (q_ldP Tryz.underlying28 rfl Tryz.ti28 rfl l.sig rfl rfl) rfl ?_
  refine wpl_tp (t_callP2 Tryz.hb13 rfl fun w h => twinSig l.ix l.cv l.pv l.chs l.ps w (h.seen_old hl.c) hl.lc (h.seen_old hl.p) hl.lp zz16 zz16) rfl (fun b10 p10 => ?_)
  haveI : OneC (l.re (b6, b10.1, b10.2)).c := Rv.svs.one (l := l.re (b6, b10.1, b10.2)) ⟨p6, p10.1, p10.2⟩
  refine wpl_q (q_field Tryz.underlying30 rfl Tryz.ti28 rfl rfl _ rfl) rfl ?_
  refine wpl_t0 (t_stP Tryz.ti28 rfl rfl zz2 (OneC.cons rfl (OneC.cons (SV.one p10.1) (OneC.cons (SV.one p10.2) oneC_nil))).h (by show 5 + 3 ≤ 8; decide) (l.re (b6, b10.1, b10.2)).c rfl) (fun _ => ?_)
  refine wpl_nil <| ex_then <| wpc_seq <| wpc_region <| wpl_q (q_ldN Tryz.underlying30 rfl Tryz.ti30 rfl LenC.h) rfl ?_
  refine wpl_t0 (t_stA Tryz.ti30 rfl rfl LenC.h OneC.h LenC.h) (fun _ => ?_)
  refine wpl_nil <| ex_then <| wpc_ret ?_
  refine retv1 (.inl rfl) rfl (rv_agg Tryz.underlying30 rfl Tryz.ti30 rfl (fun w h => h.atB) rfl) ?_
  exact fun w h => ⟨(b6, b10.1, b10.2), ⟨p6, p10.1, p10.2⟩, rfl, h.below, h.sel.made (Sub.refl _) .nil⟩
end Go.Proofs.YtgnablliekgbgaaGreatDoor
namespace Go.Proofs.YtgnablliekgbgaaGreatDoor
open Go Go.PL Go.RowKit
theorem rvTwin (l : Rv) (w : World) (hl : l.seen w.cell?) (hnl : l.nm.length ≤ maxLen) (h5 : l.ss.length ≤ 520) (h6 : l.chs.length ≤ 60) (h7 : l.ps.length ≤ 60) :
    Calls Tryz.prog 14 [.agg l.c.toArray].toArray w (GivesP w (fun x : V3 => SV x.1 l.ss.length ∧ SV x.2.1 l.chs.length ∧ SV x.2.2 l.ps.length) (fun x => .agg (l.re x).c.toArray) (fun x => [.row x.1 l.ss.length 22 1 (v64s l.ss), .row x.2.1 l.chs.length 32 16 (v8s l.chs.flatten), .row x.2.2 l.ps.length 32 16 (v8s l.ps.flatten)]) (fun _ => [])) := by
  haveI := hl.svs.one
  have lss := hl.s.sv.le
  have lcs := hl.c.sv.le
  have lps := hl.p.sv.le
  have sss := hl.s.sv
  have scs := hl.c.sv
  have sps := hl.p.sv
  simp only [maxLen] at lss lcs lps
  refine enter (m := 20) (R := Mem w [] [] []) Tryz.func14 rfl rfl (Nat.le_of_ble_eq_true rfl) (Mem.start w) ?_
  refine wpc_seq <| wpc_region ?_
  refine wpl_t (t_box rfl l.c rfl) rfl (fun b1 => ?_)
  refine wpl_t (t_alloc Tryz.ti30 Rv.z.c rfl) rfl (fun b2 => ?_)
  refine wpl_nil <| ex_then <| wpc_seq <| wpc_region <| wpl_q (q_field Tryz.underlying30 rfl Tryz.ti25 rfl rfl _ rfl) rfl <| wpl_q (q_ld Tryz.underlying25 rfl rfl (show l.c[4]? = some (l.sv) from rfl)) rfl ?_
  refine wpl_tp (t_callP1 Tryz.hb25 rfl fun w h => clone64 l.sv l.ss w (h.seen_old hl.s) zz16) rfl (fun b5 p5 => ?_)
  haveI : OneC (l.ws b5).c := Rv.svs.one (l := l.ws b5) ⟨p5, scs, sps⟩
  refine wpl_q (q_field Tryz.underlying30 rfl Tryz.ti25 rfl rfl _ rfl) rfl ?_
  refine wpl_t0 (t_st1 Tryz.ti25 rfl rfl (SV.one p5) (show 4 < 8 from zz22) _ (Rv.s_s _ _)) (fun _ => ?_)
  refine wpl_nil <| ex_then ?_
  refine wpc_cutc ({ x : Value × Value // (SV x.1 l.chs.length) ∧ (SV x.2 l.ps.length) }) [(1, .pointer (some ⟨b1, 0, none⟩)), (2, .pointer (some ⟨b2, 0, none⟩))] (fun x Lc => Lc) (fun x => Mem w [] [.row x.1.1 l.chs.length 32 16 (v8s l.chs.flatten), .row x.1.2 l.ps.length 32 16 (v8s l.ps.flatten), .row b5 l.ss.length 22 1 (v64s l.ss), .blk b2 30 Rv.z.c, .blk b1 30 (l.re (b5, x.1.1, x.1.2)).c] []) ?_ ?_
  ·
   refine wpc_draw 10 zz8 (fun _ h => h.drew) ?_
   refine wpd_p 0 rfl zz8 trivial (q_field Tryz.underlying30 rfl Tryz.ti28 rfl rfl _ rfl) rfl sk0 ?_
   refine wpd_p 1 rfl zz8 trivial (q_field Tryz.underlying28 rfl Tryz.ti26 rfl rfl _ rfl) rfl sk0 ?_
   refine wpd_q 2 rfl zz8 trivial (q_ld Tryz.underlying26 rfl rfl rfl) rfl (fun _ h => h) ?_
   refine wpd_p 4 rfl zz8 trivial (q_field Tryz.underlying30 rfl Tryz.ti28 rfl rfl _ rfl) rfl sk0 ?_
   refine wpd_p 5 rfl zz8 trivial (q_field Tryz.underlying28 rfl Tryz.ti26 rfl rfl _ rfl) rfl sk0 ?_
   refine wpd_q 6 rfl zz8 trivial (q_ld Tryz.underlying26 rfl rfl rfl) rfl (fun _ h => h) ?_
   refine wpd_tp 3 rfl zz8 trivial (t_callP1 Tryz.hb26 rfl fun w h => cloneS l.cv l.chs w (h.seen_old hl.c) hl.lc zz16) rfl (fun _ => (fun w h => .inr (h.sub SubC.h SubC.h))) (fun b10 p10 => ?_)
   refine wpd_p 8 rfl zz8 trivial (q_field Tryz.underlying30 rfl Tryz.ti28 rfl rfl _ rfl) rfl (fun w h => .inr (h.sub SubC.h SubC.h)) ?_
   refine wpd_p 9 rfl zz8 trivial (q_field Tryz.underlying28 rfl Tryz.ti26 rfl rfl _ rfl) rfl (fun w h => .inr (h.sub SubC.h SubC.h)) ?_
   refine wpd_tp 7 rfl zz8 trivial (t_callP1 Tryz.hb26 rfl fun w h => cloneS l.pv l.ps w (h.seen_old hl.p) hl.lp zz16) rfl (fun _ => (fun w h => .inr (h.sub SubC.h SubC.h))) (fun b14 p14 => ?_)
   refine wpd_t0 10 rfl zz8 trivial (t_st1 Tryz.ti26 rfl rfl (by first | exact SV.one p10 | exact SV.one p14) (by first | (show 6 < 8; decide) | (show 7 < 8; decide)) _ (by first | exact Rv.s_c _ _ | exact Rv.s_p _ _)) (fun _ => skk rfl) (fun _ => ?_)
   refine wpd_p 11 rfl zz8 trivial (q_field Tryz.underlying30 rfl Tryz.ti28 rfl rfl _ rfl) rfl (skk rfl) ?_
   refine wpd_p 12 rfl zz8 trivial (q_field Tryz.underlying28 rfl Tryz.ti26 rfl rfl _ rfl) rfl (skk rfl) ?_
   refine wpd_t0 13 rfl zz8 trivial (t_st1 Tryz.ti26 rfl rfl (by first | exact SV.one p10 | exact SV.one p14) (by first | (show 6 < 8; decide) | (show 7 < 8; decide)) _ (by first | exact Rv.s_c _ _ | exact Rv.s_p _ _)) (fun _ => skk rfl) (fun _ => ?_)
   refine wpd_done zz8 ?_
   refine ex_mid ⟨(b10, b14), ⟨p10, p14⟩⟩ ?_ ?_
   ·
    exact zz10
   ·
    exact fun w h => by first | exact h.sel | (rw [Rv.wpc] at h; exact h.sel)
  ·
   rintro ⟨⟨c1, c2⟩, ⟨hi0, hi1⟩⟩; try dsimp only
   have hi0 : SV c1 l.chs.length := hi0; have hi1 : SV c2 l.ps.length := hi1
   haveI : OneC (l.re (b5, c1, c2)).c := Rv.svs.one (l := l.re (b5, c1, c2)) ⟨p5, hi0, hi1⟩
   refine wpc_seq <| wpc_region <| wpl_q (q_ldN Tryz.underlying30 rfl Tryz.ti30 rfl LenC.h) rfl ?_
   refine wpl_t0 (t_stA Tryz.ti30 rfl rfl LenC.h OneC.h LenC.h) (fun _ => ?_)
   refine wpl_nil <| ex_then <| wpc_ret ?_
   refine retv1 (.inl rfl) rfl (rv_agg Tryz.underlying30 rfl Tryz.ti30 rfl (fun w h => h.atB) rfl) ?_
   exact fun w h => ⟨(b5, c1, c2), ⟨p5, hi0, hi1⟩, rfl, h.below, h.sel.made (Sub.refl _) .nil⟩
end Go.Proofs.YtgnablliekgbgaaGreatDoor
