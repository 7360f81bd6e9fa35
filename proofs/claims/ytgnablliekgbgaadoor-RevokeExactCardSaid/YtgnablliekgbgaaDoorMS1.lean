/- What the statement reaches, in order. -/
import Derived.Test.YtgnablliekgbgaaDoorMSPLN
import Derived.Test.YtgnablliekgbgaaDoorMSPLL
import Derived.Test.YtgnablliekgbgaaDoorMSTI
import Derived.Lib.BufferRead
import Derived.Lib.ConvBytes
import Derived.Laws.IdiomStrings
import Derived.Test.YtgnablliekgbgaaDoorMSPLH
import Derived.Recover
import Derived.Test.YtgnablliekgbgaaDoorMSPLI
import Derived.Test.YtgnablliekgbgaaDoorMSPLZ
import Derived.WalkKit
import Derived.ProofKit
import Derived.OpenShut
import Derived.ChangeOld
import Derived.Below
import Derived.Carry
import Derived.LaidMore
import Derived.Deep.DeepHandedRow
import Derived.Deep.DeepWitnessRowRef
import Derived.Lib.LaidTab
import Derived.Stop.Joined
set_option linter.unusedSimpArgs false
set_option linter.unusedVariables false
set_option maxRecDepth 100000
namespace Go.Proofs.YtgnablliekgbgaaDoor
open Go Go.PL Go.RowKit
def sgChk (ht idx : Int) (nc np : Nat) : Int := if 0 ≤ ht ∧ ht ≤ 4 then (if 0 ≤ idx ∧ idx < ((2 ^ ht.toNat : Nat) : Int) ∧ nc = 35 ∧ (np : Int) = ht then 0 else 12) else 2
theorem check_2 {ht idx : Int} {nc np : Nat} (h : ¬ (0 ≤ ht ∧ ht ≤ 4)) : sgChk ht idx nc np = 2 := if_neg h
theorem check_in {m : Nat} {idx : Int} {nc np : Nat} (h : (m : Int) ≤ 4) : sgChk m idx nc np = if 0 ≤ idx ∧ idx < ((2 ^ m : Nat) : Int) ∧ nc = 35 ∧ np = m then 0 else 12 := by
  unfold sgChk
  rw [if_pos ⟨Int.natCast_nonneg m, h⟩, Int.toNat_natCast]
  simp only [Int.ofNat_inj]
theorem check_12 {m : Nat} {idx : Int} {nc np : Nat} (h : (m : Int) ≤ 4) (hn : ¬ (0 ≤ idx ∧ idx < ((2 ^ m : Nat) : Int) ∧ nc = 35 ∧ np = m)) : sgChk m idx nc np = 12 := (check_in h).trans (if_neg hn)
theorem check_0 {m : Nat} {idx : Int} {nc np : Nat} (h : (m : Int) ≤ 4) (hn : 0 ≤ idx ∧ idx < ((2 ^ m : Nat) : Int) ∧ nc = 35 ∧ np = m) : sgChk m idx nc np = 0 := (check_in h).trans (if_pos hn)
theorem pow_le16 {m : Nat} (h : m ≤ 4) : 2 ^ m ≤ 16 := Nat.le_trans (Nat.pow_le_pow_right zz20 h) zz20
structure Rv where
  nm : List UInt8
  no : UInt64
  fr : Int
  tt : Int
  sv : Value
  ss : List UInt64
  ix : Int
  cv : Value
  chs : List (List UInt8)
  pv : Value
  ps : List (List UInt8)
def Rv.c (l : Rv) : List Value := [str l.nm, .int .u64 (l.no.toNat : Int), .int .i64 l.fr, .int .i64 l.tt, l.sv, .int .i64 l.ix, l.cv, l.pv]
def Rv.z : Rv := ⟨[], 0, 0, 0, .slice none 0 0, [], 0, .slice none 0 0, [], .slice none 0 0, []⟩
def Rv.win (l : Rv) : List Value := [.int .i64 l.fr, .int .i64 l.tt]
def Rv.sig (l : Rv) : List Value := [.int .i64 l.ix, l.cv, l.pv]
instance lenC_rv {l : Rv} : LenC l.c 8 := ⟨rfl⟩
def Rv.svs (l : Rv) : Prop := SV l.sv l.ss.length ∧ SV l.cv l.chs.length ∧ SV l.pv l.ps.length
theorem Rv.svs.one {l : Rv} (h : l.svs) : OneC l.c := OneC.cons rfl (OneC.cons rfl (OneC.cons rfl (OneC.cons rfl (OneC.cons (SV.one h.1) (OneC.cons rfl (OneC.cons (SV.one h.2.1) (OneC.cons (SV.one h.2.2) oneC_nil)))))))
structure Rv.seen (r : Rd) (l : Rv) : Prop where
  s : Seen r l.sv l.ss.length 1 (v64s l.ss)
  c : Seen r l.cv l.chs.length 16 (v8s l.chs.flatten)
  lc : ∀ x ∈ l.chs, x.length = 16
  p : Seen r l.pv l.ps.length 16 (v8s l.ps.flatten)
  lp : ∀ x ∈ l.ps, x.length = 16
theorem Rv.seen.mono {r r' : Rd} {l : Rv} (h : l.seen r) (k : ∀ a v, r a = some v → r' a = some v) : l.seen r' := ⟨h.s.mono k, h.c.mono k, h.lc, h.p.mono k, h.lp⟩
theorem Rv.seen.svs {r : Rd} {l : Rv} (h : l.seen r) : l.svs := ⟨h.s.sv, h.c.sv, h.p.sv⟩
theorem Rv.seen.old {l : Rv} {w0 w : World} {Ln : List Nat} {M : List Ent} {S : List Fact} (hs : l.seen w0.cell?) (h : Mem w0 Ln M S w) (hn : Ln = []) : l.seen w.cell? := by
  subst hn
  exact ⟨h.seen_old hs.s, h.seen_old hs.c, hs.lc, h.seen_old hs.p, hs.lp⟩
def goodB (c : UInt8) : Bool := (decide (97 ≤ c.toNat) && decide (c.toNat ≤ 122)) || (decide (65 ≤ c.toNat) && decide (c.toNat ≤ 90)) || (decide (48 ≤ c.toNat) && decide (c.toNat ≤ 57)) || decide (c.toNat = 45) || decide (c.toNat = 95)
def nameF (xs : List UInt8) : Bool := decide (1 ≤ xs.length) && decide (xs.length ≤ 40) && xs.all goodB
def timeF (t : Int) : Bool := decide (0 ≤ t) && decide (t ≤ 1099511627776)
def winF (a b : Int) : Bool := timeF a && timeF b && decide (a ≤ b)
def sigB (ix : Int) (nc np : Nat) : Bool := decide (ix ≠ 0) || decide (0 < nc) || decide (0 < np)
def gsigB (ix : Int) (nc np : Nat) : Bool := !sigB ix nc np || decide (sgChk (np : Int) ix nc np = 0)
def incF (ss : List UInt64) (n : Nat) : Prop := ∀ i, i < n → (if i = 0 then 0 else ss.getD (i - 1) 0) < ss.getD i 0
instance {ss : List UInt64} {n : Nat} : Decidable (incF ss n) := by unfold incF; exact inferInstance
def okA (l : Rv) : Bool := nameF l.nm && winF l.fr l.tt && gsigB l.ix l.chs.length l.ps.length
def okR (l : Rv) : Bool := okA l && decide (incF l.ss l.ss.length)
def chkR (l : Rv) : Int := if 500 < l.ss.length then 4 else if okR l then 0 else 8
def lastN (ss : List UInt64) (n : Nat) : UInt64 := if n = 0 then 0 else ss.getD (n - 1) 0
theorem incF_0 (ss : List UInt64) : incF ss 0 := fun i hi => absurd hi (Nat.not_lt_zero _)
theorem incF_S {ss : List UInt64} {n : Nat} : incF ss (n + 1) ↔ incF ss n ∧ lastN ss n < ss.getD n 0 := by
  constructor
  · intro h; exact ⟨fun i hi => h i zz14, h n (Nat.lt_succ_self _)⟩
  · rintro ⟨h1, h2⟩ i hi
    rcases Nat.lt_or_ge i n with h3 | h3
    · exact h1 i h3
    · obtain rfl : i = n := by omega
      exact h2
theorem incF_lt {ss : List UInt64} {n : Nat} (h : incF ss n) : ∀ j, j < n → ∀ i, i < j → ss.getD i 0 < ss.getD j 0
  | 0, _, i, hi => absurd hi (Nat.not_lt_zero _)
  | j + 1, hj, i, hi => by
    have h1 := h (j + 1) hj
    rw [if_neg zz14, Nat.add_sub_cancel] at h1
    rcases Nat.lt_or_ge i j with h2 | h2
    · exact UInt64.lt_trans (incF_lt h j zz14 i h2) h1
    · obtain rfl : i = j := by omega
      exact h1
theorem chk_4 {l : Rv} (h : 500 < l.ss.length) : chkR l = 4 := if_pos h
theorem chk_8 {l : Rv} (h : ¬ 500 < l.ss.length) (k : okR l = false) : chkR l = 8 := (if_neg h).trans (if_neg (by simp [k]))
theorem chk_ok {l : Rv} (h : ¬ 500 < l.ss.length) (k : okR l = true) : chkR l = 0 := (if_neg h).trans (if_pos k)
theorem chk_inv {l : Rv} (h : chkR l = 0) : ¬ 500 < l.ss.length ∧ incF l.ss l.ss.length := by
  unfold chkR at h
  split at h
  · cases h
  · rename_i h1
    split at h
    · rename_i h2
      unfold okR at h2
      rw [Bool.and_eq_true, decide_eq_true_eq] at h2
      exact ⟨h1, h2.2⟩
    · cases h
def revV (l : Rv) (s : UInt64) : Bool := decide (chkR l = 0) && decide (s ∈ l.ss)
def Rv.eqv (a b : Rv) : Prop := a.nm = b.nm ∧ a.no = b.no ∧ (a.fr = b.fr ∧ a.tt = b.tt) ∧ a.ss = b.ss ∧ (a.ix = b.ix ∧ a.chs = b.chs ∧ a.ps = b.ps)
instance {a b : Rv} : Decidable (a.eqv b) := by unfold Rv.eqv; exact inferInstance
def bigR (l : Rv) : Bool := decide (500 < l.nm.length) || decide (520 < l.ss.length) || (decide (60 < l.chs.length) || decide (60 < l.ps.length))
end Go.Proofs.YtgnablliekgbgaaDoor
namespace Go.Proofs.YtgnablliekgbgaaDoor
open Go Go.PL Go.RowKit
section
variable {H : Type} {enc : TypeId × Value → H} {w : World} {base : Nat} {sp : Nat → Bool} {held : Bool}
abbrev VL := Value × List (List UInt8)
theorem opensSig : Opens enc Tryd.prog w base sp held 30 (fun (a : Int × VL × VL) c _ => c = [.int .i64 a.1, a.2.1.1, a.2.2.1] ∧ (Seen w.cell? a.2.1.1 a.2.1.2.length 16 (v8s a.2.1.2.flatten) ∧ ∀ x ∈ a.2.1.2, x.length = 16) ∧ Seen w.cell? a.2.2.1 a.2.2.2.length 16 (v8s a.2.2.2.flatten) ∧ ∀ x ∈ a.2.2.2, x.length = 16) := by
  intro n c y h
  obtain ⟨⟨i, p, q, _⟩, x0, y0, d0, e0, h0, x1, y1, d1, e1, h1, x2, y2, d2, e2, h2, h3⟩ := opens_struct Tryd.underlying30 (fin := 3) zz7 (OpensFs.cons (s := 1) rfl zz7 (opens_i64 Tryd.underlying3) (OpensFs.cons (s := 1) rfl zz7 (opens_arrs Tryd.underlying28 Tryd.underlying41 Tryd.underlying5 zz7 zz7) (OpensFs.cons (s := 1) rfl zz7 (opens_arrs Tryd.underlying28 Tryd.underlying41 Tryd.underlying5 zz7 zz7) (OpensFs.nil _)))) n c y h
  dsimp only at h0 h1 h2 h3
  refine ⟨(i, p, q), ?_, ⟨h1.2.1, h1.2.2⟩, h2.2.1, h2.2.2⟩
  rw [e0, e1, e2, h0.1, h1.1, h2.1, h3]; rfl
theorem opensWin : Opens enc Tryd.prog w base sp held 27 (fun (a : Int × Int) c _ => c = [.int .i64 a.1, .int .i64 a.2]) := by
  intro n c y h
  obtain ⟨⟨a, b, _⟩, x0, y0, d0, e0, h0, x1, y1, d1, e1, h1, h2⟩ := opens_struct Tryd.underlying27 (fin := 2) zz7 (OpensFs.cons (s := 1) rfl zz7 (opens_i64 Tryd.underlying2) (OpensFs.cons (s := 1) rfl zz7 (opens_i64 Tryd.underlying2) (OpensFs.nil _))) n c y h
  dsimp only at h0 h1 h2
  refine ⟨(a, b), ?_⟩
  rw [e0, e1, h0.1, h1.1, h2]; rfl
theorem opensRv : Opens enc Tryd.prog w base sp held 32 (fun (a : Rv) c _ => c = a.c ∧ a.seen w.cell? ∧ a.nm.length ≤ maxLen) := by
  intro n c y h
  obtain ⟨⟨nm, no, ⟨f, t⟩, ⟨v, ss⟩, ⟨i, p, q⟩, _⟩, x0, y0, d0, e0, h0, x1, y1, d1, e1, h1, x2, y2, d2, e2, h2, x3, y3, d3, e3, h3, x4, y4, d4, e4, h4, h5⟩ := opens_struct Tryd.underlying32 (fin := 8) zz7 (OpensFs.cons (s := 1) rfl zz7 (opens_str Tryd.underlying9) (OpensFs.cons (s := 1) rfl zz7 (opens_u64 Tryd.underlying23) (OpensFs.cons (s := 2) rfl zz7 opensWin (OpensFs.cons (s := 1) rfl zz7 (opens_nums Tryd.underlying22 zz7 (opens_u64 Tryd.underlying23)) (OpensFs.cons (s := 3) rfl zz7 opensSig (OpensFs.nil _)))))) n c y h
  dsimp only at h0 h1 h2 h3 h4 h5
  refine ⟨⟨nm, no, f, t, v, ss, i, p.1, p.2, q.1, q.2⟩, ?_, ⟨h3.2.1, h4.2.1.1, h4.2.1.2, h4.2.2.1, h4.2.2.2⟩, h0.2.1⟩
  rw [e0, e1, e2, e3, e4, h0.1, h1, h2, h3.1, h4.1, h5]; rfl
end
end Go.Proofs.YtgnablliekgbgaaDoor
namespace Go.Proofs.YtgnablliekgbgaaDoor
open Go Go.PL Go.RowKit
theorem e45 (c : UInt8) : (c = 45) ↔ c.toNat = 45 := by rw [← UInt8.toNat_inj]; rfl
theorem e95 (c : UInt8) : (c = 95) ↔ c.toNat = 95 := by rw [← UInt8.toNat_inj]; rfl
theorem name_bad {xs : List UInt8} {i : Nat} (h : i < xs.length) (hg : goodB (xs.getD i 0) = false) : nameF xs = false := by
  have : xs.all goodB = false := by
    rw [List.all_eq_false]
    refine ⟨xs[i], List.getElem_mem h, ?_⟩
    rw [List.getD_eq_getElem?_getD, List.getElem?_eq_getElem h] at hg
    simpa using hg
  unfold nameF; rw [this, Bool.and_false]
theorem name_all {xs : List UInt8} (h : ∀ j, j < xs.length → goodB (xs.getD j 0) = true) : nameF xs = (decide (1 ≤ xs.length) && decide (xs.length ≤ 40)) := by
  have : xs.all goodB = true := by
    rw [List.all_eq_true]
    intro x hx
    obtain ⟨j, hj, rfl⟩ := List.mem_iff_getElem.1 hx
    have := h j hj
    rwa [List.getD_eq_getElem?_getD, List.getElem?_eq_getElem hj] at this
  unfold nameF; rw [this, Bool.and_true]
theorem good (ht : Int) (w : World)   :
    Calls Tryd.prog 32 [.int .i64 ht].toArray w (Pur w (.bool (decide (0 ≤ ht ∧ ht ≤ 4)))) := by
  refine enter (m := 9) (R := Mem w [] [] []) Tryd.func32 rfl rfl (Nat.le_of_ble_eq_true rfl) (Mem.start w) ?_
  refine wpc_seq <| wpc_region <| wpl_q (q_pure rfl) rfl <| wpl_nil <| ex_then <| wpc_seq <| wpc_region <| wpl_q (q_pure rfl) rfl <| wpl_q (q_pure rfl) rfl <| wpl_q (q_pure rfl) rfl ?_
  refine wpl_bool2 5 4 rfl rfl (fun hb5 => ?_) (fun hb5 => ?_)
  ·
   try simp only [decide_eq_true_eq, decide_eq_false_iff_not, Bool.and_eq_true, Bool.or_eq_true, beq_iff_eq, bne_iff_ne, ne_eq, Bool.not_eq_true', Bool.not_eq_false', Decidable.not_not] at hb5
   refine wpl_on rfl rfl <| wpl_q (q_pure rfl) rfl <| wpl_on rfl rfl <| wpl_q (q_pure rfl) rfl <| wpl_q (q_pure rfl) rfl <| wpl_q (q_pure rfl) rfl <| wpl_nil <| ex_then <| wpc_ret ?_
   refine ret1 (.inl rfl) rfl rfl ?_
   exact fun w h => ⟨by simp; omega, h.below⟩
  ·
   try simp only [decide_eq_true_eq, decide_eq_false_iff_not, Bool.and_eq_true, Bool.or_eq_true, beq_iff_eq, bne_iff_ne, ne_eq, Bool.not_eq_true', Bool.not_eq_false', Decidable.not_not] at hb5
   refine wpl_off rfl rfl rfl rfl <| wpl_off rfl rfl rfl rfl <| wpl_q (q_pure rfl) rfl <| wpl_q (q_pure rfl) rfl <| wpl_nil <| ex_then <| wpc_ret ?_
   refine ret1 (.inl rfl) rfl rfl ?_
   exact fun w h => ⟨by simp; omega, h.below⟩
theorem check7 (ht : Int) (ix : Int) (cv pv : Value) (chs ps : List (List UInt8)) (w : World) (hcv : SV cv chs.length) (hpv : SV pv ps.length)  :
    Calls Tryd.prog 31 [.int .i64 ht, .agg #[.int .i64 ix, cv, pv]].toArray w (Pur w (.int .i64 (sgChk ht ix chs.length ps.length))) := by
  haveI : OneC [.int .i64 ix, cv, pv] := OneC.cons rfl (OneC.cons (SV.one hcv) (OneC.cons (SV.one hpv) oneC_nil))
  have lcv := hcv.le
  have lpv := hpv.le
  simp only [maxLen] at lcv lpv
  refine enter (m := 31) (R := Mem w [] [] []) Tryd.func31 rfl rfl (Nat.le_of_ble_eq_true rfl) (Mem.start w) ?_
  refine wpc_seq <| wpc_region ?_
  refine wpl_t (t_box rfl [.int .i64 ix, cv, pv] rfl) rfl (fun b3 => ?_)
  refine wpl_q (q_pure rfl) rfl <| wpl_nil <| ex_then <| wpc_seq <| wpc_seq <| wpc_region <| wpl_q (q_pure rfl) rfl ?_
  refine wpl_t (t_pur Tryd.hb32 rfl fun w h => good _ w) rfl (fun b6 => ?_)
  refine wpl_q (q_pure rfl) rfl <| wpl_nil <| ex_then ?_
  refine wpc_cond rfl (fun hc7 => ?_) (fun hc7 => ?_)
  ·
   try simp only [decide_eq_true_eq, decide_eq_false_iff_not, Bool.and_eq_true, Bool.or_eq_true, beq_iff_eq, bne_iff_ne, ne_eq, Bool.not_eq_true', Bool.not_eq_false', Decidable.not_not] at hc7
   refine wpc_seq <| wpc_region <| wpl_q (q_pure rfl) rfl <| wpl_nil <| ex_then <| wpc_ret ?_
   refine ex_then_ret ?_
   refine ret1 (.inl rfl) rfl rfl ?_
   exact fun w h => ⟨by rw [check_2 hc7], h.below⟩
  ·
   simp only [Bool.not_eq_false', decide_eq_true_eq] at hc7
   obtain ⟨m, rfl⟩ : ∃ m : Nat, ht = (m : Int) := ⟨ht.toNat, zz14⟩
   have hpw := pow_le16 (m := m) zz14
   refine wpc_skip <| ex_then <| wpc_seq <| wpc_seq ?_
   refine wpc_draw 23 zz7 (fun _ h => h.drew) ?_
   refine wpd_p 0 rfl zz7 trivial (q_field Tryd.underlying30 rfl Tryd.ti3 rfl rfl _ rfl) rfl sk0 ?_
   refine wpd_q 1 rfl zz7 trivial (q_ld Tryd.underlying3 rfl rfl zz26) rfl (fun _ h => h) ?_
   refine wpd_p 2 rfl zz7 trivial (q_pure rfl) rfl sk0 ?_
   refine wpd_p 3 rfl zz7 trivial (q_pure rfl) rfl sk0 ?_
   refine wpd_bool2 11 10 rfl rfl (fun hb11 => ?_) (fun hb11 => ?_)
   ·
    try simp only [decide_eq_true_eq, decide_eq_false_iff_not, Bool.and_eq_true, Bool.or_eq_true, beq_iff_eq, bne_iff_ne, ne_eq, Bool.not_eq_true', Bool.not_eq_false', Decidable.not_not] at hb11
    refine wpd_off 4 rfl zz7 ⟨_, _, rfl, rfl, rfl⟩ rfl sk0 ?_
    refine wpd_off 5 rfl zz7 ⟨_, _, rfl, rfl, rfl⟩ rfl sk0 ?_
    refine wpd_off 6 rfl zz7 ⟨_, _, rfl, rfl, rfl⟩ rfl sk0 ?_
    refine wpd_off 7 rfl zz7 ⟨_, _, rfl, rfl, rfl⟩ rfl sk0 ?_
    refine wpd_off 8 rfl zz7 ⟨_, _, rfl, rfl, rfl⟩ rfl sk0 ?_
    refine wpd_p 9 rfl zz7 trivial (q_pure rfl) rfl sk0 ?_
    refine wpd_p 10 rfl zz7 trivial (q_pure rfl) rfl sk0 ?_
    refine wpd_off 11 rfl zz7 ⟨_, _, rfl, rfl, rfl⟩ rfl sk0 ?_
    refine wpd_off 12 rfl zz7 ⟨_, _, rfl, rfl, rfl⟩ rfl sk0 ?_
    refine wpd_off 13 rfl zz7 ⟨_, _, rfl, rfl, rfl⟩ rfl sk0 ?_
    refine wpd_off 14 rfl zz7 ⟨_, _, rfl, rfl, rfl⟩ rfl sk0 ?_
    refine wpd_p 15 rfl zz7 trivial (q_pure rfl) rfl sk0 ?_
    refine wpd_p 16 rfl zz7 trivial (q_pure rfl) rfl sk0 ?_
    refine wpd_off 17 rfl zz7 ⟨_, _, rfl, rfl, rfl⟩ rfl sk0 ?_
    refine wpd_off 18 rfl zz7 ⟨_, _, rfl, rfl, rfl⟩ rfl sk0 ?_
    refine wpd_off 19 rfl zz7 ⟨_, _, rfl, rfl, rfl⟩ rfl sk0 ?_
    refine wpd_off 20 rfl zz7 ⟨_, _, rfl, rfl, rfl⟩ rfl sk0 ?_
    refine wpd_off 21 rfl zz7 ⟨_, _, rfl, rfl, rfl⟩ rfl sk0 ?_
    refine wpd_p 22 rfl zz7 trivial (q_pure rfl) rfl sk0 ?_
    refine wpd_done zz7 ?_
    refine ex_then ?_
    refine wpc_cond_t rfl ?_
    refine wpc_seq <| wpc_region <| wpl_q (q_pure rfl) rfl <| wpl_nil <| ex_then <| wpc_ret ?_
    refine ex_then_ret ?_
    refine ret1 (.inl rfl) rfl rfl ?_
    exact fun w h => ⟨by rw [check_12 zz14 zz35], h.below⟩
   ·
    try simp only [decide_eq_true_eq, decide_eq_false_iff_not, Bool.and_eq_true, Bool.or_eq_true, beq_iff_eq, bne_iff_ne, ne_eq, Bool.not_eq_true', Bool.not_eq_false', Decidable.not_not] at hb11
    refine wpd_p 4 rfl zz7 ⟨_, rfl, rfl⟩ (q_field Tryd.underlying30 rfl Tryd.ti3 rfl rfl _ rfl) rfl sk0 ?_
    refine wpd_q 5 rfl zz7 ⟨_, rfl, rfl⟩ (q_ld Tryd.underlying3 rfl rfl zz26) rfl (fun _ h => h) ?_
    refine wpd_p 6 rfl zz7 ⟨_, rfl, rfl⟩ (q_pure rfl) rfl sk0 ?_
    refine wpd_p 7 rfl zz7 ⟨_, rfl, rfl⟩ (q_shlN (a := 1) rfl rfl zz23 zz1) rfl sk0 ?_
    refine wpd_p 8 rfl zz7 ⟨_, rfl, rfl⟩ (q_pure rfl) rfl sk0 ?_
    refine wpd_p 9 rfl zz7 trivial (q_pure rfl) rfl sk0 ?_
    refine wpd_p 10 rfl zz7 trivial (q_pure rfl) rfl sk0 ?_
    refine wpd_bool2 18 16 rfl rfl (fun hb18 => ?_) (fun hb18 => ?_)
    ·
     try simp only [decide_eq_true_eq, decide_eq_false_iff_not, Bool.and_eq_true, Bool.or_eq_true, beq_iff_eq, bne_iff_ne, ne_eq, Bool.not_eq_true', Bool.not_eq_false', Decidable.not_not] at hb18
     refine wpd_off 11 rfl zz7 ⟨_, _, rfl, rfl, rfl⟩ rfl sk0 ?_
     refine wpd_off 12 rfl zz7 ⟨_, _, rfl, rfl, rfl⟩ rfl sk0 ?_
     refine wpd_off 13 rfl zz7 ⟨_, _, rfl, rfl, rfl⟩ rfl sk0 ?_
     refine wpd_off 14 rfl zz7 ⟨_, _, rfl, rfl, rfl⟩ rfl sk0 ?_
     refine wpd_p 15 rfl zz7 trivial (q_pure rfl) rfl sk0 ?_
     refine wpd_p 16 rfl zz7 trivial (q_pure rfl) rfl sk0 ?_
     refine wpd_off 17 rfl zz7 ⟨_, _, rfl, rfl, rfl⟩ rfl sk0 ?_
     refine wpd_off 18 rfl zz7 ⟨_, _, rfl, rfl, rfl⟩ rfl sk0 ?_
     refine wpd_off 19 rfl zz7 ⟨_, _, rfl, rfl, rfl⟩ rfl sk0 ?_
     refine wpd_off 20 rfl zz7 ⟨_, _, rfl, rfl, rfl⟩ rfl sk0 ?_
     refine wpd_off 21 rfl zz7 ⟨_, _, rfl, rfl, rfl⟩ rfl sk0 ?_
     refine wpd_p 22 rfl zz7 trivial (q_pure rfl) rfl sk0 ?_
     refine wpd_done zz7 ?_
     refine ex_then ?_
     refine wpc_cond_t rfl ?_
     refine wpc_seq <| wpc_region <| wpl_q (q_pure rfl) rfl <| wpl_nil <| ex_then <| wpc_ret ?_
     refine ex_then_ret ?_
     refine ret1 (.inl rfl) rfl rfl ?_
     exact fun w h => ⟨by rw [check_12 zz14 zz35], h.below⟩
    ·
     try simp only [decide_eq_true_eq, decide_eq_false_iff_not, Bool.and_eq_true, Bool.or_eq_true, beq_iff_eq, bne_iff_ne, ne_eq, Bool.not_eq_true', Bool.not_eq_false', Decidable.not_not] at hb18
     refine wpd_p 11 rfl zz7 ⟨_, rfl, rfl⟩ (q_field Tryd.underlying30 rfl Tryd.ti28 rfl rfl _ rfl) rfl sk0 ?_
     refine wpd_q 12 rfl zz7 ⟨_, rfl, rfl⟩ (q_ld Tryd.underlying28 rfl rfl rfl) rfl (fun _ h => h) ?_
     refine wpd_p 13 rfl zz7 ⟨_, rfl, rfl⟩ (q_lenW Tryd.underlying28 rfl zz3) rfl sk0 ?_
     refine wpd_p 14 rfl zz7 ⟨_, rfl, rfl⟩ (q_pure rfl) rfl sk0 ?_
     refine wpd_p 15 rfl zz7 trivial (q_pure rfl) rfl sk0 ?_
     refine wpd_p 16 rfl zz7 trivial (q_pure rfl) rfl sk0 ?_
     refine wpd_bool2 24 22 rfl rfl (fun hb24 => ?_) (fun hb24 => ?_)
     ·
      try simp only [decide_eq_true_eq, decide_eq_false_iff_not, Bool.and_eq_true, Bool.or_eq_true, beq_iff_eq, bne_iff_ne, ne_eq, Bool.not_eq_true', Bool.not_eq_false', Decidable.not_not] at hb24
      refine wpd_off 17 rfl zz7 ⟨_, _, rfl, rfl, rfl⟩ rfl sk0 ?_
      refine wpd_off 18 rfl zz7 ⟨_, _, rfl, rfl, rfl⟩ rfl sk0 ?_
      refine wpd_off 19 rfl zz7 ⟨_, _, rfl, rfl, rfl⟩ rfl sk0 ?_
      refine wpd_off 20 rfl zz7 ⟨_, _, rfl, rfl, rfl⟩ rfl sk0 ?_
      refine wpd_off 21 rfl zz7 ⟨_, _, rfl, rfl, rfl⟩ rfl sk0 ?_
      refine wpd_p 22 rfl zz7 trivial (q_pure rfl) rfl sk0 ?_
      refine wpd_done zz7 ?_
      refine ex_then ?_
      refine wpc_cond_t rfl ?_
      refine wpc_seq <| wpc_region <| wpl_q (q_pure rfl) rfl <| wpl_nil <| ex_then <| wpc_ret ?_
      refine ex_then_ret ?_
      refine ret1 (.inl rfl) rfl rfl ?_
      exact fun w h => ⟨by rw [check_12 zz14 zz35], h.below⟩
     ·
      try simp only [decide_eq_true_eq, decide_eq_false_iff_not, Bool.and_eq_true, Bool.or_eq_true, beq_iff_eq, bne_iff_ne, ne_eq, Bool.not_eq_true', Bool.not_eq_false', Decidable.not_not] at hb24
      refine wpd_p 17 rfl zz7 ⟨_, rfl, rfl⟩ (q_field Tryd.underlying30 rfl Tryd.ti28 rfl rfl _ rfl) rfl sk0 ?_
      refine wpd_q 18 rfl zz7 ⟨_, rfl, rfl⟩ (q_ld Tryd.underlying28 rfl rfl rfl) rfl (fun _ h => h) ?_
      refine wpd_p 19 rfl zz7 ⟨_, rfl, rfl⟩ (q_lenW Tryd.underlying28 rfl zz3) rfl sk0 ?_
      refine wpd_p 20 rfl zz7 ⟨_, rfl, rfl⟩ (q_pure rfl) rfl sk0 ?_
      refine wpd_p 21 rfl zz7 ⟨_, rfl, rfl⟩ (q_pure rfl) rfl sk0 ?_
      refine wpd_p 22 rfl zz7 trivial (q_pure rfl) rfl sk0 ?_
      refine wpd_done zz7 ?_
      refine ex_then ?_
      refine wpc_cond rfl (fun hc30 => ?_) (fun hc30 => ?_)
      ·
       try simp only [decide_eq_true_eq, decide_eq_false_iff_not, Bool.and_eq_true, Bool.or_eq_true, beq_iff_eq, bne_iff_ne, ne_eq, Bool.not_eq_true', Bool.not_eq_false', Decidable.not_not] at hc30
       refine wpc_seq <| wpc_region <| wpl_q (q_pure rfl) rfl <| wpl_nil <| ex_then <| wpc_ret ?_
       refine ex_then_ret ?_
       refine ret1 (.inl rfl) rfl rfl ?_
       exact fun w h => ⟨by rw [check_12 zz14 zz35], h.below⟩
      ·
       simp only [bne_eq_false_iff_eq, decide_eq_false_iff_not, ne_eq, Decidable.not_not] at hc30 hb24
       refine wpc_skip <| ex_then <| wpc_seq <| wpc_region <| wpl_q (q_pure rfl) rfl <| wpl_nil <| ex_then <| wpc_ret ?_
       refine ret1 (.inl rfl) rfl rfl ?_
       exact fun w h => ⟨by rw [check_0 zz14 zz14], h.below⟩
theorem isTime (t : Int) (w : World)   :
    Calls Tryd.prog 55 [.int .i64 t].toArray w (Pur w (.bool (timeF t))) := by
  refine enter (m := 9) (R := Mem w [] [] []) Tryd.func55 rfl rfl (Nat.le_of_ble_eq_true rfl) (Mem.start w) ?_
  refine wpc_seq <| wpc_region <| wpl_q (q_pure rfl) rfl <| wpl_nil <| ex_then <| wpc_seq <| wpc_region <| wpl_q (q_pure rfl) rfl <| wpl_q (q_pure rfl) rfl <| wpl_q (q_pure rfl) rfl ?_
  refine wpl_bool2 5 4 rfl rfl (fun hb5 => ?_) (fun hb5 => ?_)
  ·
   try simp only [decide_eq_true_eq, decide_eq_false_iff_not, Bool.and_eq_true, Bool.or_eq_true, beq_iff_eq, bne_iff_ne, ne_eq, Bool.not_eq_true', Bool.not_eq_false', Decidable.not_not] at hb5
   refine wpl_on rfl rfl <| wpl_q (q_pure rfl) rfl <| wpl_on rfl rfl <| wpl_q (q_pure rfl) rfl <| wpl_q (q_pure rfl) rfl <| wpl_q (q_pure rfl) rfl <| wpl_nil <| ex_then <| wpc_ret ?_
   refine ret1 (.inl rfl) rfl rfl ?_
   exact fun w h => ⟨congrArg (fun b => Ending.returned (Value.bool b)) zz44, h.below⟩
  ·
   try simp only [decide_eq_true_eq, decide_eq_false_iff_not, Bool.and_eq_true, Bool.or_eq_true, beq_iff_eq, bne_iff_ne, ne_eq, Bool.not_eq_true', Bool.not_eq_false', Decidable.not_not] at hb5
   refine wpl_off rfl rfl rfl rfl <| wpl_off rfl rfl rfl rfl <| wpl_q (q_pure rfl) rfl <| wpl_q (q_pure rfl) rfl <| wpl_nil <| ex_then <| wpc_ret ?_
   refine ret1 (.inl rfl) rfl rfl ?_
   exact fun w h => ⟨congrArg (fun b => Ending.returned (Value.bool b)) zz44, h.below⟩
theorem clockCheck (fr tt : Int) (w : World)   :
    Calls Tryd.prog 30 [.agg #[.int .i64 fr, .int .i64 tt]].toArray w (Pur w (.int .i64 (if winF fr tt then 0 else 8))) := by
  refine enter (m := 20) (R := Mem w [] [] []) Tryd.func30 rfl rfl (Nat.le_of_ble_eq_true rfl) (Mem.start w) ?_
  refine wpc_seq <| wpc_region ?_
  refine wpl_t (t_box rfl [.int .i64 fr, .int .i64 tt] rfl) rfl (fun b1 => ?_)
  refine wpl_q (q_pure rfl) rfl <| wpl_nil <| ex_then <| wpc_seq <| wpc_seq <| wpc_region <| wpl_q (q_field Tryd.underlying27 rfl Tryd.ti2 rfl rfl _ rfl) rfl ?_
  refine wpl_q (q_ld Tryd.underlying2 rfl rfl zz26) rfl ?_
  refine wpl_t (t_pur Tryd.hb55 rfl fun w h => isTime _ w) rfl (fun b5 => ?_)
  refine wpl_q (q_pure rfl) rfl <| wpl_q (q_pure rfl) rfl ?_
  refine wpl_bool2 7 6 rfl rfl (fun hb7 => ?_) (fun hb7 => ?_)
  ·
   try simp only [decide_eq_true_eq, decide_eq_false_iff_not, Bool.and_eq_true, Bool.or_eq_true, beq_iff_eq, bne_iff_ne, ne_eq, Bool.not_eq_true', Bool.not_eq_false', Decidable.not_not] at hb7
   refine wpl_off rfl rfl rfl rfl <| wpl_off rfl rfl rfl rfl <| wpl_off rfl rfl rfl rfl <| wpl_off rfl rfl rfl rfl <| wpl_q (q_pure rfl) rfl <| wpl_q (q_pure rfl) rfl <| wpl_off rfl rfl rfl rfl <| wpl_off rfl rfl rfl rfl <| wpl_off rfl rfl rfl rfl <| wpl_off rfl rfl rfl rfl <| wpl_off rfl rfl rfl rfl <| wpl_q (q_pure rfl) rfl ?_
   refine wpl_nil <| ex_then ?_
   refine wpc_cond_t rfl ?_
   refine wpc_seq <| wpc_region <| wpl_q (q_pure rfl) rfl <| wpl_nil <| ex_then <| wpc_ret ?_
   refine ex_then_ret ?_
   refine ret1 (.inl rfl) rfl rfl ?_
   exact fun w h => ⟨zz48, h.below⟩
  ·
   try simp only [decide_eq_true_eq, decide_eq_false_iff_not, Bool.and_eq_true, Bool.or_eq_true, beq_iff_eq, bne_iff_ne, ne_eq, Bool.not_eq_true', Bool.not_eq_false', Decidable.not_not] at hb7
   refine wpl_on rfl rfl <| wpl_q (q_field Tryd.underlying27 rfl Tryd.ti2 rfl rfl _ rfl) rfl <| wpl_on rfl rfl ?_
   refine wpl_q (q_ld Tryd.underlying2 rfl rfl zz26) rfl ?_
   refine wpl_on rfl rfl ?_
   refine wpl_t (t_pur Tryd.hb55 rfl fun w h => isTime _ w) rfl (fun b10 => ?_)
   refine wpl_on rfl rfl <| wpl_q (q_pure rfl) rfl <| wpl_q (q_pure rfl) rfl <| wpl_q (q_pure rfl) rfl ?_
   refine wpl_bool2 13 11 rfl rfl (fun hb13 => ?_) (fun hb13 => ?_)
   ·
    try simp only [decide_eq_true_eq, decide_eq_false_iff_not, Bool.and_eq_true, Bool.or_eq_true, beq_iff_eq, bne_iff_ne, ne_eq, Bool.not_eq_true', Bool.not_eq_false', Decidable.not_not] at hb13
    refine wpl_off rfl rfl rfl rfl <| wpl_off rfl rfl rfl rfl <| wpl_off rfl rfl rfl rfl <| wpl_off rfl rfl rfl rfl <| wpl_off rfl rfl rfl rfl <| wpl_q (q_pure rfl) rfl <| wpl_nil <| ex_then ?_
    refine wpc_cond_t rfl ?_
    refine wpc_seq <| wpc_region <| wpl_q (q_pure rfl) rfl <| wpl_nil <| ex_then <| wpc_ret ?_
    refine ex_then_ret ?_
    refine ret1 (.inl rfl) rfl rfl ?_
    exact fun w h => ⟨zz48, h.below⟩
   ·
    try simp only [decide_eq_true_eq, decide_eq_false_iff_not, Bool.and_eq_true, Bool.or_eq_true, beq_iff_eq, bne_iff_ne, ne_eq, Bool.not_eq_true', Bool.not_eq_false', Decidable.not_not] at hb13
    refine wpl_on rfl rfl <| wpl_q (q_field Tryd.underlying27 rfl Tryd.ti2 rfl rfl _ rfl) rfl <| wpl_on rfl rfl ?_
    refine wpl_q (q_ld Tryd.underlying2 rfl rfl zz26) rfl ?_
    refine wpl_on rfl rfl <| wpl_q (q_field Tryd.underlying27 rfl Tryd.ti2 rfl rfl _ rfl) rfl <| wpl_on rfl rfl ?_
    refine wpl_q (q_ld Tryd.underlying2 rfl rfl zz26) rfl ?_
    refine wpl_on rfl rfl <| wpl_q (q_pure rfl) rfl <| wpl_q (q_pure rfl) rfl <| wpl_nil <| ex_then ?_
    refine wpc_cond rfl (fun hc19 => ?_) (fun hc19 => ?_)
    ·
     try simp only [decide_eq_true_eq, decide_eq_false_iff_not, Bool.and_eq_true, Bool.or_eq_true, beq_iff_eq, bne_iff_ne, ne_eq, Bool.not_eq_true', Bool.not_eq_false', Decidable.not_not] at hc19
     refine wpc_seq <| wpc_region <| wpl_q (q_pure rfl) rfl <| wpl_nil <| ex_then <| wpc_ret ?_
     refine ex_then_ret ?_
     refine ret1 (.inl rfl) rfl rfl ?_
     exact fun w h => ⟨zz48, h.below⟩
    ·
     try simp only [decide_eq_true_eq, decide_eq_false_iff_not, Bool.and_eq_true, Bool.or_eq_true, beq_iff_eq, bne_iff_ne, ne_eq, Bool.not_eq_true', Bool.not_eq_false', Decidable.not_not] at hc19
     refine wpc_skip <| ex_then <| wpc_seq <| wpc_region <| wpl_q (q_pure rfl) rfl <| wpl_nil <| ex_then <| wpc_ret ?_
     refine ret1 (.inl rfl) rfl rfl ?_
     exact fun w h => ⟨by rw [show (if winF fr tt then (0 : Int) else 8) = 0 by first | rfl | (rw [show winF fr tt = true from zz33]; rfl)], h.below⟩
theorem good1 (c : UInt8) (w : World)   :
    Calls Tryd.prog 54 [.int .u8 c.toNat].toArray w (Pur w (.bool (goodB c))) := by
  refine enter (m := 33) (R := Mem w [] [] []) Tryd.func54 rfl rfl (Nat.le_of_ble_eq_true rfl) (Mem.start w) ?_
  refine wpc_seq <| wpc_region <| wpl_q (q_pure rfl) rfl <| wpl_nil <| ex_then <| wpc_seq <| wpc_region <| wpl_q (q_pure rfl) rfl <| wpl_q (q_pure rfl) rfl <| wpl_q (q_pure rfl) rfl ?_
  refine wpl_bool2 5 4 rfl rfl (fun hb5 => ?_) (fun hb5 => ?_)
  ·
   try simp only [decide_eq_true_eq, decide_eq_false_iff_not, Bool.and_eq_true, Bool.or_eq_true, beq_iff_eq, bne_iff_ne, ne_eq, Bool.not_eq_true', Bool.not_eq_false', Decidable.not_not] at hb5
   refine wpl_on rfl rfl <| wpl_q (q_pure rfl) rfl <| wpl_on rfl rfl <| wpl_q (q_pure rfl) rfl <| wpl_q (q_pure rfl) rfl <| wpl_q (q_pure rfl) rfl ?_
   refine wpl_bool2 9 7 rfl rfl (fun hb9 => ?_) (fun hb9 => ?_)
   ·
    try simp only [decide_eq_true_eq, decide_eq_false_iff_not, Bool.and_eq_true, Bool.or_eq_true, beq_iff_eq, bne_iff_ne, ne_eq, Bool.not_eq_true', Bool.not_eq_false', Decidable.not_not] at hb9
    refine wpl_off rfl rfl rfl rfl <| wpl_off rfl rfl rfl rfl <| wpl_off rfl rfl rfl rfl <| wpl_off rfl rfl rfl rfl <| wpl_off rfl rfl rfl rfl <| wpl_off rfl rfl rfl rfl <| wpl_q (q_pure rfl) rfl <| wpl_q (q_pure rfl) rfl <| wpl_off rfl rfl rfl rfl <| wpl_off rfl rfl rfl rfl <| wpl_off rfl rfl rfl rfl <| wpl_off rfl rfl rfl rfl ?_
    refine wpl_off rfl rfl rfl rfl <| wpl_off rfl rfl rfl rfl <| wpl_q (q_pure rfl) rfl <| wpl_q (q_pure rfl) rfl <| wpl_off rfl rfl rfl rfl <| wpl_off rfl rfl rfl rfl <| wpl_q (q_pure rfl) rfl <| wpl_q (q_pure rfl) rfl <| wpl_off rfl rfl rfl rfl <| wpl_off rfl rfl rfl rfl <| wpl_q (q_pure rfl) rfl <| wpl_q (q_pure rfl) rfl ?_
    refine wpl_nil <| ex_then <| wpc_ret ?_
    refine ret1 (.inl rfl) rfl rfl ?_
    exact fun w h => ⟨congrArg (fun b => Ending.returned (Value.bool b)) zz10, h.below⟩
   ·
    try simp only [decide_eq_true_eq, decide_eq_false_iff_not, Bool.and_eq_true, Bool.or_eq_true, beq_iff_eq, bne_iff_ne, ne_eq, Bool.not_eq_true', Bool.not_eq_false', Decidable.not_not] at hb9
    refine wpl_on rfl rfl <| wpl_q (q_pure rfl) rfl <| wpl_on rfl rfl <| wpl_q (q_pure rfl) rfl <| wpl_on rfl rfl <| wpl_q (q_pure rfl) rfl ?_
    refine wpl_bool2 12 11 rfl rfl (fun hb12 => ?_) (fun hb12 => ?_)
    ·
     try simp only [decide_eq_true_eq, decide_eq_false_iff_not, Bool.and_eq_true, Bool.or_eq_true, beq_iff_eq, bne_iff_ne, ne_eq, Bool.not_eq_true', Bool.not_eq_false', Decidable.not_not] at hb12
     refine wpl_on rfl rfl <| wpl_q (q_pure rfl) rfl <| wpl_on rfl rfl <| wpl_q (q_pure rfl) rfl <| wpl_on rfl rfl <| wpl_q (q_pure rfl) rfl <| wpl_q (q_pure rfl) rfl <| wpl_q (q_pure rfl) rfl ?_
     refine wpl_bool2 17 14 rfl rfl (fun hb17 => ?_) (fun hb17 => ?_)
     ·
      try simp only [decide_eq_true_eq, decide_eq_false_iff_not, Bool.and_eq_true, Bool.or_eq_true, beq_iff_eq, bne_iff_ne, ne_eq, Bool.not_eq_true', Bool.not_eq_false', Decidable.not_not] at hb17
      refine wpl_off rfl rfl rfl rfl <| wpl_off rfl rfl rfl rfl <| wpl_off rfl rfl rfl rfl <| wpl_off rfl rfl rfl rfl <| wpl_off rfl rfl rfl rfl <| wpl_off rfl rfl rfl rfl <| wpl_q (q_pure rfl) rfl <| wpl_q (q_pure rfl) rfl <| wpl_off rfl rfl rfl rfl <| wpl_off rfl rfl rfl rfl <| wpl_q (q_pure rfl) rfl <| wpl_q (q_pure rfl) rfl ?_
      refine wpl_off rfl rfl rfl rfl <| wpl_off rfl rfl rfl rfl <| wpl_q (q_pure rfl) rfl <| wpl_q (q_pure rfl) rfl <| wpl_nil <| ex_then <| wpc_ret ?_
      refine ret1 (.inl rfl) rfl rfl ?_
      exact fun w h => ⟨congrArg (fun b => Ending.returned (Value.bool b)) zz10, h.below⟩
     ·
      try simp only [decide_eq_true_eq, decide_eq_false_iff_not, Bool.and_eq_true, Bool.or_eq_true, beq_iff_eq, bne_iff_ne, ne_eq, Bool.not_eq_true', Bool.not_eq_false', Decidable.not_not] at hb17
      refine wpl_on rfl rfl <| wpl_q (q_pure rfl) rfl <| wpl_on rfl rfl <| wpl_q (q_pure rfl) rfl <| wpl_on rfl rfl <| wpl_q (q_pure rfl) rfl ?_
      refine wpl_bool2 20 19 rfl rfl (fun hb20 => ?_) (fun hb20 => ?_)
      ·
       try simp only [decide_eq_true_eq, decide_eq_false_iff_not, Bool.and_eq_true, Bool.or_eq_true, beq_iff_eq, bne_iff_ne, ne_eq, Bool.not_eq_true', Bool.not_eq_false', Decidable.not_not] at hb20
       refine wpl_on rfl rfl <| wpl_q (q_pure rfl) rfl <| wpl_on rfl rfl <| wpl_q (q_pure rfl) rfl <| wpl_on rfl rfl <| wpl_q (q_pure rfl) rfl <| wpl_q (q_pure rfl) rfl <| wpl_q (q_pure rfl) rfl ?_
       refine wpl_bool2 25 22 rfl rfl (fun hb25 => ?_) (fun hb25 => ?_)
       ·
        try simp only [decide_eq_true_eq, decide_eq_false_iff_not, Bool.and_eq_true, Bool.or_eq_true, beq_iff_eq, bne_iff_ne, ne_eq, Bool.not_eq_true', Bool.not_eq_false', Decidable.not_not] at hb25
        refine wpl_off rfl rfl rfl rfl <| wpl_off rfl rfl rfl rfl <| wpl_q (q_pure rfl) rfl <| wpl_q (q_pure rfl) rfl <| wpl_off rfl rfl rfl rfl <| wpl_off rfl rfl rfl rfl <| wpl_q (q_pure rfl) rfl <| wpl_q (q_pure rfl) rfl <| wpl_nil <| ex_then <| wpc_ret ?_
        refine ret1 (.inl rfl) rfl rfl ?_
        exact fun w h => ⟨congrArg (fun b => Ending.returned (Value.bool b)) zz10, h.below⟩
       ·
        try simp only [decide_eq_true_eq, decide_eq_false_iff_not, Bool.and_eq_true, Bool.or_eq_true, beq_iff_eq, bne_iff_ne, ne_eq, Bool.not_eq_true', Bool.not_eq_false', Decidable.not_not] at hb25
        refine wpl_on rfl rfl <| wpl_q (q_pure rfl) rfl <| wpl_on rfl rfl ?_
        refine wpl_q (q8_eql (b := (45 : UInt8)) rfl rfl) rfl ?_
        refine wpl_q (q_pure rfl) rfl <| wpl_q (q_pure rfl) rfl ?_
        refine wpl_bool2 29 27 rfl rfl (fun hb29 => ?_) (fun hb29 => ?_)
        ·
         try simp only [decide_eq_true_eq, decide_eq_false_iff_not, Bool.and_eq_true, Bool.or_eq_true, beq_iff_eq, bne_iff_ne, ne_eq, Bool.not_eq_true', Bool.not_eq_false', Decidable.not_not] at hb29
         refine wpl_off rfl rfl rfl rfl <| wpl_off rfl rfl rfl rfl <| wpl_q (q_pure rfl) rfl <| wpl_q (q_pure rfl) rfl <| wpl_nil <| ex_then <| wpc_ret ?_
         refine ret1 (.inl rfl) rfl rfl ?_
         exact fun w h => ⟨congrArg (fun b => Ending.returned (Value.bool b)) zz10, h.below⟩
        ·
         try simp only [decide_eq_true_eq, decide_eq_false_iff_not, Bool.and_eq_true, Bool.or_eq_true, beq_iff_eq, bne_iff_ne, ne_eq, Bool.not_eq_true', Bool.not_eq_false', Decidable.not_not] at hb29
         refine wpl_on rfl rfl <| wpl_q (q_pure rfl) rfl <| wpl_on rfl rfl ?_
         refine wpl_q (q8_eql (b := (95 : UInt8)) rfl rfl) rfl ?_
         refine wpl_q (q_pure rfl) rfl <| wpl_q (q_pure rfl) rfl <| wpl_nil <| ex_then <| wpc_ret ?_
         refine ret1 (.inl rfl) rfl rfl ?_
         exact fun w h => ⟨congrArg (fun b => Ending.returned (Value.bool b)) zz10, h.below⟩
      ·
       try simp only [decide_eq_true_eq, decide_eq_false_iff_not, Bool.and_eq_true, Bool.or_eq_true, beq_iff_eq, bne_iff_ne, ne_eq, Bool.not_eq_true', Bool.not_eq_false', Decidable.not_not] at hb20
       refine wpl_off rfl rfl rfl rfl <| wpl_off rfl rfl rfl rfl <| wpl_on rfl rfl <| wpl_q (q_pure rfl) rfl <| wpl_q (q_pure rfl) rfl <| wpl_q (q_pure rfl) rfl <| wpl_on rfl rfl <| wpl_q (q_pure rfl) rfl <| wpl_on rfl rfl ?_
       refine wpl_q (q8_eql (b := (45 : UInt8)) rfl rfl) rfl ?_
       refine wpl_q (q_pure rfl) rfl <| wpl_q (q_pure rfl) rfl ?_
       refine wpl_bool2 29 27 rfl rfl (fun hb29 => ?_) (fun hb29 => ?_)
       ·
        try simp only [decide_eq_true_eq, decide_eq_false_iff_not, Bool.and_eq_true, Bool.or_eq_true, beq_iff_eq, bne_iff_ne, ne_eq, Bool.not_eq_true', Bool.not_eq_false', Decidable.not_not] at hb29
        refine wpl_off rfl rfl rfl rfl <| wpl_off rfl rfl rfl rfl <| wpl_q (q_pure rfl) rfl <| wpl_q (q_pure rfl) rfl <| wpl_nil <| ex_then <| wpc_ret ?_
        refine ret1 (.inl rfl) rfl rfl ?_
        exact fun w h => ⟨congrArg (fun b => Ending.returned (Value.bool b)) zz10, h.below⟩
       ·
        try simp only [decide_eq_true_eq, decide_eq_false_iff_not, Bool.and_eq_true, Bool.or_eq_true, beq_iff_eq, bne_iff_ne, ne_eq, Bool.not_eq_true', Bool.not_eq_false', Decidable.not_not] at hb29
        refine wpl_on rfl rfl <| wpl_q (q_pure rfl) rfl <| wpl_on rfl rfl ?_
        refine wpl_q (q8_eql (b := (95 : UInt8)) rfl rfl) rfl ?_
        refine wpl_q (q_pure rfl) rfl <| wpl_q (q_pure rfl) rfl <| wpl_nil <| ex_then <| wpc_ret ?_
        refine ret1 (.inl rfl) rfl rfl ?_
        exact fun w h => ⟨congrArg (fun b => Ending.returned (Value.bool b)) zz10, h.below⟩
    ·
     try simp only [decide_eq_true_eq, decide_eq_false_iff_not, Bool.and_eq_true, Bool.or_eq_true, beq_iff_eq, bne_iff_ne, ne_eq, Bool.not_eq_true', Bool.not_eq_false', Decidable.not_not] at hb12
     refine wpl_off rfl rfl rfl rfl <| wpl_off rfl rfl rfl rfl <| wpl_on rfl rfl <| wpl_q (q_pure rfl) rfl <| wpl_q (q_pure rfl) rfl <| wpl_q (q_pure rfl) rfl <| wpl_on rfl rfl <| wpl_q (q_pure rfl) rfl <| wpl_on rfl rfl <| wpl_q (q_pure rfl) rfl <| wpl_on rfl rfl <| wpl_q (q_pure rfl) rfl ?_
     refine wpl_bool2 20 19 rfl rfl (fun hb20 => ?_) (fun hb20 => ?_)
     ·
      try simp only [decide_eq_true_eq, decide_eq_false_iff_not, Bool.and_eq_true, Bool.or_eq_true, beq_iff_eq, bne_iff_ne, ne_eq, Bool.not_eq_true', Bool.not_eq_false', Decidable.not_not] at hb20
      refine wpl_on rfl rfl <| wpl_q (q_pure rfl) rfl <| wpl_on rfl rfl <| wpl_q (q_pure rfl) rfl <| wpl_on rfl rfl <| wpl_q (q_pure rfl) rfl <| wpl_q (q_pure rfl) rfl <| wpl_q (q_pure rfl) rfl ?_
      refine wpl_bool2 25 22 rfl rfl (fun hb25 => ?_) (fun hb25 => ?_)
      ·
       try simp only [decide_eq_true_eq, decide_eq_false_iff_not, Bool.and_eq_true, Bool.or_eq_true, beq_iff_eq, bne_iff_ne, ne_eq, Bool.not_eq_true', Bool.not_eq_false', Decidable.not_not] at hb25
       refine wpl_off rfl rfl rfl rfl <| wpl_off rfl rfl rfl rfl <| wpl_q (q_pure rfl) rfl <| wpl_q (q_pure rfl) rfl <| wpl_off rfl rfl rfl rfl <| wpl_off rfl rfl rfl rfl <| wpl_q (q_pure rfl) rfl <| wpl_q (q_pure rfl) rfl <| wpl_nil <| ex_then <| wpc_ret ?_
       refine ret1 (.inl rfl) rfl rfl ?_
       exact fun w h => ⟨congrArg (fun b => Ending.returned (Value.bool b)) zz10, h.below⟩
      ·
       try simp only [decide_eq_true_eq, decide_eq_false_iff_not, Bool.and_eq_true, Bool.or_eq_true, beq_iff_eq, bne_iff_ne, ne_eq, Bool.not_eq_true', Bool.not_eq_false', Decidable.not_not] at hb25
       refine wpl_on rfl rfl <| wpl_q (q_pure rfl) rfl <| wpl_on rfl rfl ?_
       refine wpl_q (q8_eql (b := (45 : UInt8)) rfl rfl) rfl ?_
       refine wpl_q (q_pure rfl) rfl <| wpl_q (q_pure rfl) rfl ?_
       refine wpl_bool2 29 27 rfl rfl (fun hb29 => ?_) (fun hb29 => ?_)
       ·
        try simp only [decide_eq_true_eq, decide_eq_false_iff_not, Bool.and_eq_true, Bool.or_eq_true, beq_iff_eq, bne_iff_ne, ne_eq, Bool.not_eq_true', Bool.not_eq_false', Decidable.not_not] at hb29
        refine wpl_off rfl rfl rfl rfl <| wpl_off rfl rfl rfl rfl <| wpl_q (q_pure rfl) rfl <| wpl_q (q_pure rfl) rfl <| wpl_nil <| ex_then <| wpc_ret ?_
        refine ret1 (.inl rfl) rfl rfl ?_
        exact fun w h => ⟨congrArg (fun b => Ending.returned (Value.bool b)) zz10, h.below⟩
       ·
        try simp only [decide_eq_true_eq, decide_eq_false_iff_not, Bool.and_eq_true, Bool.or_eq_true, beq_iff_eq, bne_iff_ne, ne_eq, Bool.not_eq_true', Bool.not_eq_false', Decidable.not_not] at hb29
        refine wpl_on rfl rfl <| wpl_q (q_pure rfl) rfl <| wpl_on rfl rfl ?_
        refine wpl_q (q8_eql (b := (95 : UInt8)) rfl rfl) rfl ?_
        refine wpl_q (q_pure rfl) rfl <| wpl_q (q_pure rfl) rfl <| wpl_nil <| ex_then <| wpc_ret ?_
        refine ret1 (.inl rfl) rfl rfl ?_
        exact fun w h => ⟨congrArg (fun b => Ending.returned (Value.bool b)) zz10, h.below⟩
     ·
      try simp only [decide_eq_true_eq, decide_eq_false_iff_not, Bool.and_eq_true, Bool.or_eq_true, beq_iff_eq, bne_iff_ne, ne_eq, Bool.not_eq_true', Bool.not_eq_false', Decidable.not_not] at hb20
      refine wpl_off rfl rfl rfl rfl <| wpl_off rfl rfl rfl rfl <| wpl_on rfl rfl <| wpl_q (q_pure rfl) rfl <| wpl_q (q_pure rfl) rfl <| wpl_q (q_pure rfl) rfl <| wpl_on rfl rfl <| wpl_q (q_pure rfl) rfl <| wpl_on rfl rfl ?_
      refine wpl_q (q8_eql (b := (45 : UInt8)) rfl rfl) rfl ?_
      refine wpl_q (q_pure rfl) rfl <| wpl_q (q_pure rfl) rfl ?_
      refine wpl_bool2 29 27 rfl rfl (fun hb29 => ?_) (fun hb29 => ?_)
      ·
       try simp only [decide_eq_true_eq, decide_eq_false_iff_not, Bool.and_eq_true, Bool.or_eq_true, beq_iff_eq, bne_iff_ne, ne_eq, Bool.not_eq_true', Bool.not_eq_false', Decidable.not_not] at hb29
       refine wpl_off rfl rfl rfl rfl <| wpl_off rfl rfl rfl rfl <| wpl_q (q_pure rfl) rfl <| wpl_q (q_pure rfl) rfl <| wpl_nil <| ex_then <| wpc_ret ?_
       refine ret1 (.inl rfl) rfl rfl ?_
       exact fun w h => ⟨congrArg (fun b => Ending.returned (Value.bool b)) zz10, h.below⟩
      ·
       try simp only [decide_eq_true_eq, decide_eq_false_iff_not, Bool.and_eq_true, Bool.or_eq_true, beq_iff_eq, bne_iff_ne, ne_eq, Bool.not_eq_true', Bool.not_eq_false', Decidable.not_not] at hb29
       refine wpl_on rfl rfl <| wpl_q (q_pure rfl) rfl <| wpl_on rfl rfl ?_
       refine wpl_q (q8_eql (b := (95 : UInt8)) rfl rfl) rfl ?_
       refine wpl_q (q_pure rfl) rfl <| wpl_q (q_pure rfl) rfl <| wpl_nil <| ex_then <| wpc_ret ?_
       refine ret1 (.inl rfl) rfl rfl ?_
       exact fun w h => ⟨congrArg (fun b => Ending.returned (Value.bool b)) zz10, h.below⟩
  ·
   try simp only [decide_eq_true_eq, decide_eq_false_iff_not, Bool.and_eq_true, Bool.or_eq_true, beq_iff_eq, bne_iff_ne, ne_eq, Bool.not_eq_true', Bool.not_eq_false', Decidable.not_not] at hb5
   refine wpl_off rfl rfl rfl rfl <| wpl_off rfl rfl rfl rfl <| wpl_q (q_pure rfl) rfl <| wpl_q (q_pure rfl) rfl <| wpl_on rfl rfl <| wpl_q (q_pure rfl) rfl <| wpl_on rfl rfl <| wpl_q (q_pure rfl) rfl <| wpl_on rfl rfl <| wpl_q (q_pure rfl) rfl ?_
   refine wpl_bool2 12 11 rfl rfl (fun hb12 => ?_) (fun hb12 => ?_)
   ·
    try simp only [decide_eq_true_eq, decide_eq_false_iff_not, Bool.and_eq_true, Bool.or_eq_true, beq_iff_eq, bne_iff_ne, ne_eq, Bool.not_eq_true', Bool.not_eq_false', Decidable.not_not] at hb12
    refine wpl_on rfl rfl <| wpl_q (q_pure rfl) rfl <| wpl_on rfl rfl <| wpl_q (q_pure rfl) rfl <| wpl_on rfl rfl <| wpl_q (q_pure rfl) rfl <| wpl_q (q_pure rfl) rfl <| wpl_q (q_pure rfl) rfl ?_
    refine wpl_bool2 17 14 rfl rfl (fun hb17 => ?_) (fun hb17 => ?_)
    ·
     try simp only [decide_eq_true_eq, decide_eq_false_iff_not, Bool.and_eq_true, Bool.or_eq_true, beq_iff_eq, bne_iff_ne, ne_eq, Bool.not_eq_true', Bool.not_eq_false', Decidable.not_not] at hb17
     refine wpl_off rfl rfl rfl rfl <| wpl_off rfl rfl rfl rfl <| wpl_off rfl rfl rfl rfl <| wpl_off rfl rfl rfl rfl <| wpl_off rfl rfl rfl rfl <| wpl_off rfl rfl rfl rfl <| wpl_q (q_pure rfl) rfl <| wpl_q (q_pure rfl) rfl <| wpl_off rfl rfl rfl rfl <| wpl_off rfl rfl rfl rfl <| wpl_q (q_pure rfl) rfl <| wpl_q (q_pure rfl) rfl ?_
     refine wpl_off rfl rfl rfl rfl <| wpl_off rfl rfl rfl rfl <| wpl_q (q_pure rfl) rfl <| wpl_q (q_pure rfl) rfl <| wpl_nil <| ex_then <| wpc_ret ?_
     refine ret1 (.inl rfl) rfl rfl ?_
     exact fun w h => ⟨congrArg (fun b => Ending.returned (Value.bool b)) zz10, h.below⟩
    ·
     try simp only [decide_eq_true_eq, decide_eq_false_iff_not, Bool.and_eq_true, Bool.or_eq_true, beq_iff_eq, bne_iff_ne, ne_eq, Bool.not_eq_true', Bool.not_eq_false', Decidable.not_not] at hb17
     refine wpl_on rfl rfl <| wpl_q (q_pure rfl) rfl <| wpl_on rfl rfl <| wpl_q (q_pure rfl) rfl <| wpl_on rfl rfl <| wpl_q (q_pure rfl) rfl ?_
     refine wpl_bool2 20 19 rfl rfl (fun hb20 => ?_) (fun hb20 => ?_)
     ·
      try simp only [decide_eq_true_eq, decide_eq_false_iff_not, Bool.and_eq_true, Bool.or_eq_true, beq_iff_eq, bne_iff_ne, ne_eq, Bool.not_eq_true', Bool.not_eq_false', Decidable.not_not] at hb20
      refine wpl_on rfl rfl <| wpl_q (q_pure rfl) rfl <| wpl_on rfl rfl <| wpl_q (q_pure rfl) rfl <| wpl_on rfl rfl <| wpl_q (q_pure rfl) rfl <| wpl_q (q_pure rfl) rfl <| wpl_q (q_pure rfl) rfl ?_
      refine wpl_bool2 25 22 rfl rfl (fun hb25 => ?_) (fun hb25 => ?_)
      ·
       try simp only [decide_eq_true_eq, decide_eq_false_iff_not, Bool.and_eq_true, Bool.or_eq_true, beq_iff_eq, bne_iff_ne, ne_eq, Bool.not_eq_true', Bool.not_eq_false', Decidable.not_not] at hb25
       refine wpl_off rfl rfl rfl rfl <| wpl_off rfl rfl rfl rfl <| wpl_q (q_pure rfl) rfl <| wpl_q (q_pure rfl) rfl <| wpl_off rfl rfl rfl rfl <| wpl_off rfl rfl rfl rfl <| wpl_q (q_pure rfl) rfl <| wpl_q (q_pure rfl) rfl <| wpl_nil <| ex_then <| wpc_ret ?_
       refine ret1 (.inl rfl) rfl rfl ?_
       exact fun w h => ⟨congrArg (fun b => Ending.returned (Value.bool b)) zz10, h.below⟩
      ·
       try simp only [decide_eq_true_eq, decide_eq_false_iff_not, Bool.and_eq_true, Bool.or_eq_true, beq_iff_eq, bne_iff_ne, ne_eq, Bool.not_eq_true', Bool.not_eq_false', Decidable.not_not] at hb25
       refine wpl_on rfl rfl <| wpl_q (q_pure rfl) rfl <| wpl_on rfl rfl ?_
       refine wpl_q (q8_eql (b := (45 : UInt8)) rfl rfl) rfl ?_
       refine wpl_q (q_pure rfl) rfl <| wpl_q (q_pure rfl) rfl ?_
       refine wpl_bool2 29 27 rfl rfl (fun hb29 => ?_) (fun hb29 => ?_)
       ·
        try simp only [decide_eq_true_eq, decide_eq_false_iff_not, Bool.and_eq_true, Bool.or_eq_true, beq_iff_eq, bne_iff_ne, ne_eq, Bool.not_eq_true', Bool.not_eq_false', Decidable.not_not] at hb29
        refine wpl_off rfl rfl rfl rfl <| wpl_off rfl rfl rfl rfl <| wpl_q (q_pure rfl) rfl <| wpl_q (q_pure rfl) rfl <| wpl_nil <| ex_then <| wpc_ret ?_
        refine ret1 (.inl rfl) rfl rfl ?_
        exact fun w h => ⟨congrArg (fun b => Ending.returned (Value.bool b)) zz10, h.below⟩
       ·
        try simp only [decide_eq_true_eq, decide_eq_false_iff_not, Bool.and_eq_true, Bool.or_eq_true, beq_iff_eq, bne_iff_ne, ne_eq, Bool.not_eq_true', Bool.not_eq_false', Decidable.not_not] at hb29
        refine wpl_on rfl rfl <| wpl_q (q_pure rfl) rfl <| wpl_on rfl rfl ?_
        refine wpl_q (q8_eql (b := (95 : UInt8)) rfl rfl) rfl ?_
        refine wpl_q (q_pure rfl) rfl <| wpl_q (q_pure rfl) rfl <| wpl_nil <| ex_then <| wpc_ret ?_
        refine ret1 (.inl rfl) rfl rfl ?_
        exact fun w h => ⟨congrArg (fun b => Ending.returned (Value.bool b)) zz10, h.below⟩
     ·
      try simp only [decide_eq_true_eq, decide_eq_false_iff_not, Bool.and_eq_true, Bool.or_eq_true, beq_iff_eq, bne_iff_ne, ne_eq, Bool.not_eq_true', Bool.not_eq_false', Decidable.not_not] at hb20
      refine wpl_off rfl rfl rfl rfl <| wpl_off rfl rfl rfl rfl <| wpl_on rfl rfl <| wpl_q (q_pure rfl) rfl <| wpl_q (q_pure rfl) rfl <| wpl_q (q_pure rfl) rfl <| wpl_on rfl rfl <| wpl_q (q_pure rfl) rfl <| wpl_on rfl rfl ?_
      refine wpl_q (q8_eql (b := (45 : UInt8)) rfl rfl) rfl ?_
      refine wpl_q (q_pure rfl) rfl <| wpl_q (q_pure rfl) rfl ?_
      refine wpl_bool2 29 27 rfl rfl (fun hb29 => ?_) (fun hb29 => ?_)
      ·
       try simp only [decide_eq_true_eq, decide_eq_false_iff_not, Bool.and_eq_true, Bool.or_eq_true, beq_iff_eq, bne_iff_ne, ne_eq, Bool.not_eq_true', Bool.not_eq_false', Decidable.not_not] at hb29
       refine wpl_off rfl rfl rfl rfl <| wpl_off rfl rfl rfl rfl <| wpl_q (q_pure rfl) rfl <| wpl_q (q_pure rfl) rfl <| wpl_nil <| ex_then <| wpc_ret ?_
       refine ret1 (.inl rfl) rfl rfl ?_
       exact fun w h => ⟨congrArg (fun b => Ending.returned (Value.bool b)) zz10, h.below⟩
      ·
       try simp only [decide_eq_true_eq, decide_eq_false_iff_not, Bool.and_eq_true, Bool.or_eq_true, beq_iff_eq, bne_iff_ne, ne_eq, Bool.not_eq_true', Bool.not_eq_false', Decidable.not_not] at hb29
       refine wpl_on rfl rfl <| wpl_q (q_pure rfl) rfl <| wpl_on rfl rfl ?_
       refine wpl_q (q8_eql (b := (95 : UInt8)) rfl rfl) rfl ?_
       refine wpl_q (q_pure rfl) rfl <| wpl_q (q_pure rfl) rfl <| wpl_nil <| ex_then <| wpc_ret ?_
       refine ret1 (.inl rfl) rfl rfl ?_
       exact fun w h => ⟨congrArg (fun b => Ending.returned (Value.bool b)) zz10, h.below⟩
   ·
    try simp only [decide_eq_true_eq, decide_eq_false_iff_not, Bool.and_eq_true, Bool.or_eq_true, beq_iff_eq, bne_iff_ne, ne_eq, Bool.not_eq_true', Bool.not_eq_false', Decidable.not_not] at hb12
    refine wpl_off rfl rfl rfl rfl <| wpl_off rfl rfl rfl rfl <| wpl_on rfl rfl <| wpl_q (q_pure rfl) rfl <| wpl_q (q_pure rfl) rfl <| wpl_q (q_pure rfl) rfl <| wpl_on rfl rfl <| wpl_q (q_pure rfl) rfl <| wpl_on rfl rfl <| wpl_q (q_pure rfl) rfl <| wpl_on rfl rfl <| wpl_q (q_pure rfl) rfl ?_
    refine wpl_bool2 20 19 rfl rfl (fun hb20 => ?_) (fun hb20 => ?_)
    ·
     try simp only [decide_eq_true_eq, decide_eq_false_iff_not, Bool.and_eq_true, Bool.or_eq_true, beq_iff_eq, bne_iff_ne, ne_eq, Bool.not_eq_true', Bool.not_eq_false', Decidable.not_not] at hb20
     refine wpl_on rfl rfl <| wpl_q (q_pure rfl) rfl <| wpl_on rfl rfl <| wpl_q (q_pure rfl) rfl <| wpl_on rfl rfl <| wpl_q (q_pure rfl) rfl <| wpl_q (q_pure rfl) rfl <| wpl_q (q_pure rfl) rfl ?_
     refine wpl_bool2 25 22 rfl rfl (fun hb25 => ?_) (fun hb25 => ?_)
     ·
      try simp only [decide_eq_true_eq, decide_eq_false_iff_not, Bool.and_eq_true, Bool.or_eq_true, beq_iff_eq, bne_iff_ne, ne_eq, Bool.not_eq_true', Bool.not_eq_false', Decidable.not_not] at hb25
      refine wpl_off rfl rfl rfl rfl <| wpl_off rfl rfl rfl rfl <| wpl_q (q_pure rfl) rfl <| wpl_q (q_pure rfl) rfl <| wpl_off rfl rfl rfl rfl <| wpl_off rfl rfl rfl rfl <| wpl_q (q_pure rfl) rfl <| wpl_q (q_pure rfl) rfl <| wpl_nil <| ex_then <| wpc_ret ?_
      refine ret1 (.inl rfl) rfl rfl ?_
      exact fun w h => ⟨congrArg (fun b => Ending.returned (Value.bool b)) zz10, h.below⟩
     ·
      try simp only [decide_eq_true_eq, decide_eq_false_iff_not, Bool.and_eq_true, Bool.or_eq_true, beq_iff_eq, bne_iff_ne, ne_eq, Bool.not_eq_true', Bool.not_eq_false', Decidable.not_not] at hb25
      refine wpl_on rfl rfl <| wpl_q (q_pure rfl) rfl <| wpl_on rfl rfl ?_
      refine wpl_q (q8_eql (b := (45 : UInt8)) rfl rfl) rfl ?_
      refine wpl_q (q_pure rfl) rfl <| wpl_q (q_pure rfl) rfl ?_
      refine wpl_bool2 29 27 rfl rfl (fun hb29 => ?_) (fun hb29 => ?_)
      ·
       try simp only [decide_eq_true_eq, decide_eq_false_iff_not, Bool.and_eq_true, Bool.or_eq_true, beq_iff_eq, bne_iff_ne, ne_eq, Bool.not_eq_true', Bool.not_eq_false', Decidable.not_not] at hb29
       refine wpl_off rfl rfl rfl rfl <| wpl_off rfl rfl rfl rfl <| wpl_q (q_pure rfl) rfl <| wpl_q (q_pure rfl) rfl <| wpl_nil <| ex_then <| wpc_ret ?_
       refine ret1 (.inl rfl) rfl rfl ?_
       exact fun w h => ⟨congrArg (fun b => Ending.returned (Value.bool b)) zz10, h.below⟩
      ·
       try simp only [decide_eq_true_eq, decide_eq_false_iff_not, Bool.and_eq_true, Bool.or_eq_true, beq_iff_eq, bne_iff_ne, ne_eq, Bool.not_eq_true', Bool.not_eq_false', Decidable.not_not] at hb29
       refine wpl_on rfl rfl <| wpl_q (q_pure rfl) rfl <| wpl_on rfl rfl ?_
       refine wpl_q (q8_eql (b := (95 : UInt8)) rfl rfl) rfl ?_
       refine wpl_q (q_pure rfl) rfl <| wpl_q (q_pure rfl) rfl <| wpl_nil <| ex_then <| wpc_ret ?_
       refine ret1 (.inl rfl) rfl rfl ?_
       exact fun w h => ⟨congrArg (fun b => Ending.returned (Value.bool b)) zz10, h.below⟩
    ·
     try simp only [decide_eq_true_eq, decide_eq_false_iff_not, Bool.and_eq_true, Bool.or_eq_true, beq_iff_eq, bne_iff_ne, ne_eq, Bool.not_eq_true', Bool.not_eq_false', Decidable.not_not] at hb20
     refine wpl_off rfl rfl rfl rfl <| wpl_off rfl rfl rfl rfl <| wpl_on rfl rfl <| wpl_q (q_pure rfl) rfl <| wpl_q (q_pure rfl) rfl <| wpl_q (q_pure rfl) rfl <| wpl_on rfl rfl <| wpl_q (q_pure rfl) rfl <| wpl_on rfl rfl ?_
     refine wpl_q (q8_eql (b := (45 : UInt8)) rfl rfl) rfl ?_
     refine wpl_q (q_pure rfl) rfl <| wpl_q (q_pure rfl) rfl ?_
     refine wpl_bool2 29 27 rfl rfl (fun hb29 => ?_) (fun hb29 => ?_)
     ·
      try simp only [decide_eq_true_eq, decide_eq_false_iff_not, Bool.and_eq_true, Bool.or_eq_true, beq_iff_eq, bne_iff_ne, ne_eq, Bool.not_eq_true', Bool.not_eq_false', Decidable.not_not] at hb29
      refine wpl_off rfl rfl rfl rfl <| wpl_off rfl rfl rfl rfl <| wpl_q (q_pure rfl) rfl <| wpl_q (q_pure rfl) rfl <| wpl_nil <| ex_then <| wpc_ret ?_
      refine ret1 (.inl rfl) rfl rfl ?_
      exact fun w h => ⟨congrArg (fun b => Ending.returned (Value.bool b)) zz10, h.below⟩
     ·
      try simp only [decide_eq_true_eq, decide_eq_false_iff_not, Bool.and_eq_true, Bool.or_eq_true, beq_iff_eq, bne_iff_ne, ne_eq, Bool.not_eq_true', Bool.not_eq_false', Decidable.not_not] at hb29
      refine wpl_on rfl rfl <| wpl_q (q_pure rfl) rfl <| wpl_on rfl rfl ?_
      refine wpl_q (q8_eql (b := (95 : UInt8)) rfl rfl) rfl ?_
      refine wpl_q (q_pure rfl) rfl <| wpl_q (q_pure rfl) rfl <| wpl_nil <| ex_then <| wpc_ret ?_
      refine ret1 (.inl rfl) rfl rfl ?_
      exact fun w h => ⟨congrArg (fun b => Ending.returned (Value.bool b)) zz10, h.below⟩
end Go.Proofs.YtgnablliekgbgaaDoor
namespace Go.Proofs.YtgnablliekgbgaaDoor
open Go Go.PL Go.RowKit
theorem nameOk (xs : List UInt8) (w : World) (hxl : xs.length ≤ maxLen)  :
    Calls Tryd.prog 29 [str xs].toArray w (Pur w (.bool (nameF xs))) := by
  simp only [maxLen] at hxl
  refine enter (m := 25) (R := Mem w [] [] []) Tryd.func29 rfl rfl (Nat.le_of_ble_eq_true rfl) (Mem.start w) ?_
  refine wpc_seq <| wpc_region <| wpl_q (q_pure rfl) rfl <| wpl_nil <| ex_then <| wpc_seq <| wpc_region <| wpl_q (q_pure rfl) rfl <| wpl_nil <| ex_then <| wpc_seq <| wpc_seq ?_
  refine wpc_region <| wpl_q (q_pure rfl) rfl <| wpl_q (q_lenS Tryd.underlying9 rfl) rfl <| wpl_q (q_pure rfl) rfl <| wpl_nil <| ex_then <| wpc_block ?_
  refine wpc_loopc (ι := { x : Nat // (x ≤ xs.length) ∧ (∀ j, j < x → goodB (xs.getD j 0) = true) }) [(0, _), (3, _), (6, _)] (fun x Lc => (7, .int .i64 ((x.1 : Nat) : Int)) :: Lc) (fun x => Mem w [] [] []) (fun x => xs.length - x.1) ⟨0, ⟨Nat.zero_le _, fun j hj => zz14⟩⟩ zz9 ?_ ?_
  ·
   exact fun w h => h
  ·
   rintro ⟨i, ⟨hi0, hi1⟩⟩; try dsimp only
   have hi0 : i ≤ xs.length := hi0; have hi1 : ∀ j, j < i → goodB (xs.getD j 0) = true := hi1
   refine wpc_seq <| wpc_region <| wpl_q (q_pure rfl) rfl <| wpl_nil <| ex_then <| wpc_seq ?_
   refine wpc_cond rfl (fun hc8 => ?_) (fun hc8 => ?_)
   ·
    simp only [decide_eq_true_eq] at hc8
    have hil : i < xs.length := by omega
    refine wpc_skip <| ex_then <| wpc_seq <| wpc_block <| wpc_seq <| wpc_region <| wpl_q (q_pure rfl) rfl <| wpl_q (q_pure rfl) rfl <| wpl_nil <| ex_then <| wpc_seq <| wpc_region ?_
    refine wpl_q (q_pure rfl) rfl <| wpl_q (q_pure rfl) rfl <| wpl_q (q_pure rfl) rfl ?_
    refine wpl_q (q_strIdx Tryd.underlying9 rfl rfl zz1) rfl ?_
    refine wpl_t (t_purV rfl Tryd.hb54 rfl fun w h => good1 (xs.getD i 0) w) rfl (fun b14 => ?_)
    refine wpl_q (q_pure rfl) rfl <| wpl_nil <| ex_then ?_
    refine wpc_cond rfl (fun hc15 => ?_) (fun hc15 => ?_)
    ·
     have hg : goodB (xs.getD i 0) = false := by simpa using hc15
     refine wpc_seq <| wpc_region <| wpl_q (q_pure rfl) rfl <| wpl_nil <| ex_then <| wpc_ret ?_
     refine ex_block_ret ?_
     refine ex_then_ret ?_
     refine ex_then_ret ?_
     refine ex_block_ret ?_
     refine ex_then_ret ?_
     refine ret1 (.inl rfl) rfl rfl ?_
     exact fun w h => ⟨by rw [show nameF xs = false by exact name_bad hil hg], h.below⟩
    ·
     have hg : goodB (xs.getD i 0) = true := by simpa using hc15
     refine wpc_skip <| ex_block <| ex_then <| wpc_region ?_
     refine wpl_q (q_addN (b := 1) rfl rfl zz1) rfl ?_
     refine wpl_q (q_pure rfl) rfl <| wpl_nil ?_
     refine ex_again ⟨i + 1, ⟨by show i + 1 ≤ xs.length; omega, fun j hj => by rcases Nat.lt_or_ge j i with h | h; exact hi1 j h; obtain rfl : j = i := (by have hj : j < i + 1 := hj; omega); exact hg⟩⟩ ?_ ?_ ?_
     ·
      exact zz9
     ·
      exact fun w h => by first | exact h | exact h.sub SubC.h SubC.h | exact h.sub zz8 zz8
     ·
      (show xs.length - (i + 1) < xs.length - i); omega
   ·
    simp only [decide_eq_false_iff_not] at hc8
    obtain rfl : i = xs.length := by omega
    refine wpc_exit ?_
    refine ex_then_exit ?_
    refine ex_then_exit ?_
    refine ex_block_hit ?_
    refine ex_then <| wpc_seq <| wpc_region <| wpl_q (q_pure rfl) rfl <| wpl_q (q_lenS Tryd.underlying9 rfl) rfl <| wpl_q (q_pure rfl) rfl <| wpl_q (q_pure rfl) rfl ?_
    refine wpl_bool2 20 19 rfl rfl (fun hb20 => ?_) (fun hb20 => ?_)
    ·
     have hl1 : 1 ≤ xs.length := by have := of_decide_eq_true hb20; omega
     refine wpl_on rfl rfl <| wpl_q (q_pure rfl) rfl <| wpl_on rfl rfl <| wpl_q (q_lenS Tryd.underlying9 rfl) rfl <| wpl_on rfl rfl <| wpl_q (q_pure rfl) rfl <| wpl_q (q_pure rfl) rfl <| wpl_q (q_pure rfl) rfl <| wpl_nil <| ex_then <| wpc_ret ?_
     refine ret1 (.inl rfl) rfl rfl ?_
     exact fun w h => ⟨by rw [name_all hi1]; first | (rw [decide_eq_true hl1, Bool.true_and]; exact congrArg (fun b => Ending.returned (Value.bool b)) (decide_eq_decide.2 zz14)) | (rw [decide_eq_false hl0]; rfl), h.below⟩
    ·
     have hl0 : ¬ 1 ≤ xs.length := by have := of_decide_eq_false hb20; omega
     refine wpl_off rfl rfl rfl rfl <| wpl_off rfl rfl rfl rfl <| wpl_off rfl rfl rfl rfl <| wpl_q (q_pure rfl) rfl <| wpl_q (q_pure rfl) rfl <| wpl_nil <| ex_then <| wpc_ret ?_
     refine ret1 (.inl rfl) rfl rfl ?_
     exact fun w h => ⟨by rw [name_all hi1]; first | (rw [decide_eq_true hl1, Bool.true_and]; exact congrArg (fun b => Ending.returned (Value.bool b)) (decide_eq_decide.2 zz14)) | (rw [decide_eq_false hl0]; rfl), h.below⟩
end Go.Proofs.YtgnablliekgbgaaDoor
namespace Go.Proofs.YtgnablliekgbgaaDoor
open Go Go.PL Go.RowKit
theorem rvCheck (l : Rv) (w : World) (hl : l.seen w.cell?) (hnl : l.nm.length ≤ maxLen)  :
    Calls Tryd.prog 10 [.agg l.c.toArray].toArray w (Pur w (.int .i64 (chkR l))) := by
  haveI := hl.svs.one
  have lss := hl.s.sv.le
  have lcs := hl.c.sv.le
  have lps := hl.p.sv.le
  have sss := hl.s.sv
  have scs := hl.c.sv
  have sps := hl.p.sv
  simp only [maxLen] at lss lcs lps
  refine enter (m := 66) (R := Mem w [] [] []) Tryd.func10 rfl rfl (Nat.le_of_ble_eq_true rfl) (Mem.start w) ?_
  refine wpc_seq <| wpc_region ?_
  refine wpl_t (t_box rfl l.c rfl) rfl (fun b1 => ?_)
  refine wpl_q (q_pure rfl) rfl <| wpl_nil <| ex_then <| wpc_seq <| wpc_seq <| wpc_region <| wpl_q (q_field Tryd.underlying32 rfl Tryd.ti22 rfl rfl _ rfl) rfl <| wpl_q (q_ld Tryd.underlying22 rfl rfl (show l.c[4]? = some (l.sv) from rfl)) rfl ?_
  refine wpl_q (q_lenW Tryd.underlying22 rfl zz3) rfl ?_
  refine wpl_q (q_pure rfl) rfl <| wpl_nil <| ex_then ?_
  refine wpc_cond rfl (fun hc10 => ?_) (fun hc10 => ?_)
  ·
   have h5 : 500 < l.ss.length := by have := of_decide_eq_true hc10; omega
   refine wpc_seq <| wpc_region <| wpl_q (q_pure rfl) rfl <| wpl_nil <| ex_then <| wpc_ret ?_
   refine ex_then_ret ?_
   refine ret1 (.inl rfl) rfl rfl ?_
   exact fun w h => ⟨by rw [chk_4 h5], h.below⟩
  ·
   have h5 : ¬ 500 < l.ss.length := by have := of_decide_eq_false hc10; omega
   refine wpc_skip <| ex_then ?_
   refine wpc_cutc ({ x : Unit // True }) [(1, .pointer (some ⟨b1, 0, none⟩))] (fun x Lc => (3, .bool (nameF l.nm && winF l.fr l.tt)) :: Lc) (fun x => Mem w [] [.blk b1 32 l.c] []) ?_ ?_
   ·
    refine wpc_region <| wpl_q (q_field Tryd.underlying32 rfl Tryd.ti9 rfl rfl _ rfl) rfl <| wpl_q (q_ld Tryd.underlying9 rfl rfl (show l.c[0]? = some (str l.nm) from rfl)) rfl ?_
    refine wpl_t (t_pur Tryd.hb29 rfl fun w h => nameOk l.nm w hnl) rfl (fun b13 => ?_)
    refine wpl_q (q_pure rfl) rfl ?_
    refine wpl_bool2 14 13 rfl rfl (fun hb14 => ?_) (fun hb14 => ?_)
    ·
     have hn : nameF l.nm = true := hb14
     refine wpl_on rfl rfl <| wpl_q (q_field Tryd.underlying32 rfl Tryd.ti27 rfl rfl _ rfl) rfl <| wpl_on rfl rfl <| wpl_q (q_ldP Tryd.underlying27 rfl Tryd.ti27 rfl l.win rfl rfl) rfl <| wpl_on rfl rfl ?_
     refine wpl_t (t_pur Tryd.hb30 rfl fun w h => clockCheck l.fr l.tt w) rfl (fun b17 => ?_)
     refine wpl_on rfl rfl <| wpl_q (q_pure rfl) rfl <| wpl_q (q_pure rfl) rfl ?_
     refine wpl_re 19 rfl (congrArg Value.bool (show _ = (nameF l.nm && winF l.fr l.tt) by first | (rw [hn, Bool.true_and]; cases winF l.fr l.tt <;> rfl) | (rw [hn]; rfl))) ?_
     refine wpl_q (q_pure rfl) rfl <| wpl_nil ?_
     refine ex_mid ⟨(), trivial⟩ ?_ ?_
     ·
      exact zz9
     ·
      exact fun w h => by first | exact h | exact h.sub SubC.h SubC.h | exact h.sub zz8 zz8
    ·
     have hn : nameF l.nm = false := hb14
     refine wpl_off rfl rfl rfl rfl <| wpl_off rfl rfl rfl rfl <| wpl_off rfl rfl rfl rfl <| wpl_off rfl rfl rfl rfl <| wpl_q (q_pure rfl) rfl ?_
     refine wpl_re 19 rfl (congrArg Value.bool (show _ = (nameF l.nm && winF l.fr l.tt) by first | (rw [hn, Bool.true_and]; cases winF l.fr l.tt <;> rfl) | (rw [hn]; rfl))) ?_
     refine wpl_q (q_pure rfl) rfl <| wpl_nil ?_
     refine ex_mid ⟨(), trivial⟩ ?_ ?_
     ·
      exact zz9
     ·
      exact fun w h => by first | exact h | exact h.sub SubC.h SubC.h | exact h.sub zz8 zz8
   ·
    rintro ⟨_, _⟩; try dsimp only
    refine wpc_cutc ({ x : Unit // True }) [(1, .pointer (some ⟨b1, 0, none⟩))] (fun x Lc => (3, .bool (okA l)) :: Lc) (fun x => Mem w [] [.blk b1 32 l.c] []) ?_ ?_
    ·
     refine wpc_cutc ({ x : Unit // True }) [(1, .pointer (some ⟨b1, 0, none⟩)), (3, .bool (nameF l.nm && winF l.fr l.tt))] (fun x Lc => (37, .bool (sigB l.ix l.chs.length l.ps.length)) :: Lc) (fun x => Mem w [] [.blk b1 32 l.c] []) ?_ ?_
     ·
      refine wpc_region <| wpl_q (q_field Tryd.underlying32 rfl Tryd.ti30 rfl rfl _ rfl) rfl <| wpl_q (q_field Tryd.underlying30 rfl Tryd.ti3 rfl rfl _ rfl) rfl <| wpl_q (q_ld Tryd.underlying3 rfl rfl (show l.c[5]? = some (.int .i64 l.ix) from rfl)) rfl <| wpl_q (q_pure rfl) rfl <| wpl_q (q_pure rfl) rfl ?_
      refine wpl_bool2 24 23 rfl rfl (fun hb24 => ?_) (fun hb24 => ?_)
      ·
       try simp only [decide_eq_true_eq, decide_eq_false_iff_not, Bool.and_eq_true, Bool.or_eq_true, beq_iff_eq, bne_iff_ne, ne_eq, Bool.not_eq_true', Bool.not_eq_false', Decidable.not_not] at hb24
       refine wpl_off rfl rfl rfl rfl <| wpl_off rfl rfl rfl rfl <| wpl_off rfl rfl rfl rfl <| wpl_off rfl rfl rfl rfl <| wpl_off rfl rfl rfl rfl <| wpl_q (q_pure rfl) rfl <| wpl_q (q_pure rfl) rfl <| wpl_off rfl rfl rfl rfl <| wpl_off rfl rfl rfl rfl <| wpl_off rfl rfl rfl rfl <| wpl_off rfl rfl rfl rfl <| wpl_off rfl rfl rfl rfl ?_
       refine wpl_q (q_pure rfl) rfl ?_
       refine wpl_re 37 rfl (congrArg Value.bool (show _ = (sigB l.ix l.chs.length l.ps.length) from by
         (try simp only [bne_iff_ne, ne_eq, bne_eq_false_iff_eq, decide_eq_true_eq, decide_eq_false_iff_not, gt_iff_lt] at *)
         first
         | exact (show sigB l.ix l.chs.length l.ps.length = true by simp only [sigB, Bool.or_eq_true, decide_eq_true_eq]; omega).symm
         | (rw [Bool.eq_iff_iff]; simp only [sigB, Bool.or_eq_true, decide_eq_true_eq]; omega))) ?_
       refine wpl_nil ?_
       refine ex_mid ⟨(), trivial⟩ ?_ ?_
       ·
        exact zz9
       ·
        exact fun w h => by first | exact h | exact h.sub SubC.h SubC.h | exact h.sub zz8 zz8
      ·
       try simp only [decide_eq_true_eq, decide_eq_false_iff_not, Bool.and_eq_true, Bool.or_eq_true, beq_iff_eq, bne_iff_ne, ne_eq, Bool.not_eq_true', Bool.not_eq_false', Decidable.not_not] at hb24
       refine wpl_on rfl rfl <| wpl_q (q_field Tryd.underlying32 rfl Tryd.ti30 rfl rfl _ rfl) rfl <| wpl_on rfl rfl <| wpl_q (q_field Tryd.underlying30 rfl Tryd.ti28 rfl rfl _ rfl) rfl <| wpl_on rfl rfl <| wpl_q (q_ld Tryd.underlying28 rfl rfl (show l.c[6]? = some (l.cv) from rfl)) rfl <| wpl_on rfl rfl ?_
       refine wpl_q (q_lenW Tryd.underlying28 rfl zz3) rfl ?_
       refine wpl_on rfl rfl <| wpl_q (q_pure rfl) rfl <| wpl_q (q_pure rfl) rfl <| wpl_q (q_pure rfl) rfl ?_
       refine wpl_bool2 31 29 rfl rfl (fun hb31 => ?_) (fun hb31 => ?_)
       ·
        try simp only [decide_eq_true_eq, decide_eq_false_iff_not, Bool.and_eq_true, Bool.or_eq_true, beq_iff_eq, bne_iff_ne, ne_eq, Bool.not_eq_true', Bool.not_eq_false', Decidable.not_not] at hb31
        refine wpl_off rfl rfl rfl rfl <| wpl_off rfl rfl rfl rfl <| wpl_off rfl rfl rfl rfl <| wpl_off rfl rfl rfl rfl <| wpl_off rfl rfl rfl rfl <| wpl_q (q_pure rfl) rfl ?_
        refine wpl_re 37 rfl (congrArg Value.bool (show _ = (sigB l.ix l.chs.length l.ps.length) from by
          (try simp only [bne_iff_ne, ne_eq, bne_eq_false_iff_eq, decide_eq_true_eq, decide_eq_false_iff_not, gt_iff_lt] at *)
          first
          | exact (show sigB l.ix l.chs.length l.ps.length = true by simp only [sigB, Bool.or_eq_true, decide_eq_true_eq]; omega).symm
          | (rw [Bool.eq_iff_iff]; simp only [sigB, Bool.or_eq_true, decide_eq_true_eq]; omega))) ?_
        refine wpl_nil ?_
        refine ex_mid ⟨(), trivial⟩ ?_ ?_
        ·
         exact zz9
        ·
         exact fun w h => by first | exact h | exact h.sub SubC.h SubC.h | exact h.sub zz8 zz8
       ·
        try simp only [decide_eq_true_eq, decide_eq_false_iff_not, Bool.and_eq_true, Bool.or_eq_true, beq_iff_eq, bne_iff_ne, ne_eq, Bool.not_eq_true', Bool.not_eq_false', Decidable.not_not] at hb31
        refine wpl_on rfl rfl <| wpl_q (q_field Tryd.underlying32 rfl Tryd.ti30 rfl rfl _ rfl) rfl <| wpl_on rfl rfl <| wpl_q (q_field Tryd.underlying30 rfl Tryd.ti28 rfl rfl _ rfl) rfl <| wpl_on rfl rfl <| wpl_q (q_ld Tryd.underlying28 rfl rfl (show l.c[7]? = some (l.pv) from rfl)) rfl <| wpl_on rfl rfl ?_
        refine wpl_q (q_lenW Tryd.underlying28 rfl zz3) rfl ?_
        refine wpl_on rfl rfl <| wpl_q (q_pure rfl) rfl <| wpl_q (q_pure rfl) rfl ?_
        refine wpl_re 37 rfl (congrArg Value.bool (show _ = (sigB l.ix l.chs.length l.ps.length) from by
          (try simp only [bne_iff_ne, ne_eq, bne_eq_false_iff_eq, decide_eq_true_eq, decide_eq_false_iff_not, gt_iff_lt] at *)
          first
          | exact (show sigB l.ix l.chs.length l.ps.length = true by simp only [sigB, Bool.or_eq_true, decide_eq_true_eq]; omega).symm
          | (rw [Bool.eq_iff_iff]; simp only [sigB, Bool.or_eq_true, decide_eq_true_eq]; omega))) ?_
        refine wpl_nil ?_
        refine ex_mid ⟨(), trivial⟩ ?_ ?_
        ·
         exact zz9
        ·
         exact fun w h => by first | exact h | exact h.sub SubC.h SubC.h | exact h.sub zz8 zz8
     ·
      rintro ⟨_, _⟩; try dsimp only
      refine wpc_cond rfl (fun hc37 => ?_) (fun hc37 => ?_)
      ·
       have hs : (sigB l.ix l.chs.length l.ps.length) = true := hc37
       refine wpc_region <| wpl_q (q_pure rfl) rfl <| wpl_q (q_pure rfl) rfl ?_
       refine wpl_bool2 39 3 rfl rfl (fun hb39 => ?_) (fun hb39 => ?_)
       ·
        have hnw : (nameF l.nm && winF l.fr l.tt) = true := hb39
        refine wpl_on rfl rfl <| wpl_q (q_field Tryd.underlying32 rfl Tryd.ti30 rfl rfl _ rfl) rfl <| wpl_on rfl rfl <| wpl_q (q_field Tryd.underlying30 rfl Tryd.ti28 rfl rfl _ rfl) rfl <| wpl_on rfl rfl <| wpl_q (q_ld Tryd.underlying28 rfl rfl (show l.c[7]? = some (l.pv) from rfl)) rfl <| wpl_on rfl rfl ?_
        refine wpl_q (q_lenW Tryd.underlying28 rfl zz3) rfl ?_
        refine wpl_on rfl rfl <| wpl_q (q_field Tryd.underlying32 rfl Tryd.ti30 rfl rfl _ rfl) rfl <| wpl_on rfl rfl <| wpl_q (q_ldP Tryd.underlying30 rfl Tryd.ti30 rfl l.sig rfl rfl) rfl <| wpl_on rfl rfl ?_
        refine wpl_t (t_pur Tryd.hb31 rfl fun w h => check7 ((l.ps.length : Nat) : Int) l.ix l.cv l.pv l.chs l.ps w scs sps) rfl (fun b46 => ?_)
        refine wpl_on rfl rfl <| wpl_q (q_pure rfl) rfl <| wpl_q (q_pure rfl) rfl ?_
        refine wpl_re 48 rfl (congrArg Value.bool (show _ = okA l by unfold okA gsigB; rw [hs, hnw]; first | rfl | simp)) ?_
        refine wpl_q (q_pure rfl) rfl <| wpl_nil ?_
        refine ex_mid ⟨(), trivial⟩ ?_ ?_
        ·
         exact zz9
        ·
         exact fun w h => by first | exact h | exact h.sub SubC.h SubC.h | exact h.sub zz8 zz8
       ·
        have hnw : (nameF l.nm && winF l.fr l.tt) = false := hb39
        refine wpl_off rfl rfl rfl rfl <| wpl_off rfl rfl rfl rfl <| wpl_off rfl rfl rfl rfl <| wpl_off rfl rfl rfl rfl <| wpl_off rfl rfl rfl rfl <| wpl_off rfl rfl rfl rfl <| wpl_off rfl rfl rfl rfl <| wpl_off rfl rfl rfl rfl <| wpl_q (q_pure rfl) rfl ?_
        refine wpl_re 48 rfl (congrArg Value.bool (show _ = okA l by unfold okA gsigB; rw [hs, hnw]; first | rfl | simp)) ?_
        refine wpl_q (q_pure rfl) rfl <| wpl_nil ?_
        refine ex_mid ⟨(), trivial⟩ ?_ ?_
        ·
         exact zz9
        ·
         exact fun w h => by first | exact h | exact h.sub SubC.h SubC.h | exact h.sub zz8 zz8
      ·
       have hs : (sigB l.ix l.chs.length l.ps.length) = false := hc37
       refine wpc_re 3 rfl (congrArg Value.bool (show _ = okA l by unfold okA gsigB; rw [hs]; simp)) ?_
       refine wpc_skip ?_
       refine ex_mid ⟨(), trivial⟩ ?_ ?_
       ·
        exact zz9
       ·
        exact fun w h => by first | exact h | exact h.sub SubC.h SubC.h | exact h.sub zz8 zz8
    ·
     rintro ⟨_, _⟩; try dsimp only
     refine wpc_seq <| wpc_region <| wpl_q (q_pure rfl) rfl <| wpl_nil <| ex_then <| wpc_seq <| wpc_seq <| wpc_region <| wpl_q (q_field Tryd.underlying32 rfl Tryd.ti22 rfl rfl _ rfl) rfl <| wpl_q (q_ld Tryd.underlying22 rfl rfl (show l.c[4]? = some (l.sv) from rfl)) rfl ?_
     refine wpl_q (q_lenW Tryd.underlying22 rfl zz3) rfl ?_
     refine wpl_re 3 rfl (congrArg Value.bool (show _ = (okA l && decide (incF l.ss 0)) by rw [decide_eq_true (incF_0 _), Bool.and_true])) ?_
     refine wpl_q (q_pure rfl) rfl <| wpl_nil <| ex_then <| wpc_block ?_
     refine wpc_loopc (ι := { x : Nat // (x ≤ l.ss.length) }) [(50, _), (51, _)] (fun x Lc => (52, .int .i64 ((x.1 : Nat) : Int)) :: (4, .int .u64 ((lastN l.ss x.1).toNat : Int)) :: (3, .bool (okA l && decide (incF l.ss x.1))) :: Lc) (fun x => Mem w [] [.blk b1 32 l.c] []) (fun x => l.ss.length - x.1) ⟨0, Nat.zero_le _⟩ zz9 ?_ ?_
     ·
      exact fun w h => h
     ·
      rintro ⟨i, hi0⟩; try dsimp only
      have hi0 : i ≤ l.ss.length := hi0
      refine wpc_seq <| wpc_region <| wpl_q (q_pure rfl) rfl <| wpl_nil <| ex_then <| wpc_seq ?_
      refine wpc_cond rfl (fun hc53 => ?_) (fun hc53 => ?_)
      ·
       simp only [decide_eq_true_eq] at hc53
       have hil : i < l.ss.length := by omega
       refine wpc_skip <| ex_then <| wpc_seq <| wpc_block <| wpc_seq <| wpc_region ?_
       refine wpl_q (q_idxW1 Tryd.underlying22 Tryd.ti23 rfl rfl zz3 zz1) rfl ?_
       refine wpl_q (q_ldW Tryd.underlying23 rfl rfl (fun w h => h.seen_old hl.s) zz49) rfl ?_
       refine wpl_q (q_pure rfl) rfl <| wpl_nil <| ex_then <| wpc_seq <| wpc_region <| wpl_q (q_pure rfl) rfl <| wpl_q (q_pure rfl) rfl ?_
       refine wpl_bool2 57 3 rfl rfl (fun hb57 => ?_) (fun hb57 => ?_)
       ·
        have hk : (okA l && decide (incF l.ss i)) = true := hb57
        refine wpl_on rfl rfl <| wpl_q (q_pure rfl) rfl <| wpl_on rfl rfl <| wpl_q (q_pure rfl) rfl <| wpl_on rfl rfl <| wpl_q (q_pure rfl) rfl <| wpl_q (q_pure rfl) rfl ?_
        refine wpl_re 61 rfl (congrArg Value.bool (show _ = (okA l && decide (incF l.ss (i + 1))) by
          rw [decide_eq_decide.2 incF_S, Bool.decide_and, ← Bool.and_assoc, hk]
          first
          | rfl
          | (rw [Bool.true_and]; first | rfl | exact decide_eq_decide.2 (by first | exact Iff.rfl | (rw [UInt64.lt_iff_toNat_lt]; omega))))) ?_
        refine wpl_q (q_pure rfl) rfl <| wpl_nil <| ex_then <| wpc_region <| wpl_q (q_pure rfl) rfl <| wpl_q (q_pure rfl) rfl <| wpl_nil <| ex_block <| ex_then <| wpc_region ?_
        refine wpl_q (q_addN (b := 1) rfl rfl zz1) rfl ?_
        refine wpl_q (q_pure rfl) rfl <| wpl_nil ?_
        refine ex_again ⟨i + 1, (show i + 1 ≤ l.ss.length from zz14)⟩ ?_ ?_ ?_
        ·
         exact zz9
        ·
         exact fun w h => by first | exact h | exact h.sub SubC.h SubC.h | exact h.sub zz8 zz8
        ·
         (show l.ss.length - (i + 1) < l.ss.length - i); omega
       ·
        have hk : (okA l && decide (incF l.ss i)) = false := hb57
        refine wpl_off rfl rfl rfl rfl <| wpl_off rfl rfl rfl rfl <| wpl_off rfl rfl rfl rfl <| wpl_q (q_pure rfl) rfl ?_
        refine wpl_re 61 rfl (congrArg Value.bool (show _ = (okA l && decide (incF l.ss (i + 1))) by
          rw [decide_eq_decide.2 incF_S, Bool.decide_and, ← Bool.and_assoc, hk]
          first
          | rfl
          | (rw [Bool.true_and]; first | rfl | exact decide_eq_decide.2 (by first | exact Iff.rfl | (rw [UInt64.lt_iff_toNat_lt]; omega))))) ?_
        refine wpl_q (q_pure rfl) rfl <| wpl_nil <| ex_then <| wpc_region <| wpl_q (q_pure rfl) rfl <| wpl_q (q_pure rfl) rfl <| wpl_nil <| ex_block <| ex_then <| wpc_region ?_
        refine wpl_q (q_addN (b := 1) rfl rfl zz1) rfl ?_
        refine wpl_q (q_pure rfl) rfl <| wpl_nil ?_
        refine ex_again ⟨i + 1, (show i + 1 ≤ l.ss.length from zz14)⟩ ?_ ?_ ?_
        ·
         exact zz9
        ·
         exact fun w h => by first | exact h | exact h.sub SubC.h SubC.h | exact h.sub zz8 zz8
        ·
         (show l.ss.length - (i + 1) < l.ss.length - i); omega
      ·
       simp only [decide_eq_false_iff_not] at hc53
       obtain rfl : i = l.ss.length := by omega
       refine wpc_exit ?_
       refine ex_then_exit ?_
       refine ex_then_exit ?_
       refine ex_block_hit ?_
       refine ex_then <| wpc_seq <| wpc_seq <| wpc_region <| wpl_q (q_pure rfl) rfl <| wpl_q (q_pure rfl) rfl <| wpl_nil <| ex_then ?_
       refine wpc_cond rfl (fun hc65 => ?_) (fun hc65 => ?_)
       ·
        have hk : okR l = false := by rw [Bool.not_eq_true'] at hc65; exact hc65
        refine wpc_seq <| wpc_region <| wpl_q (q_pure rfl) rfl <| wpl_nil <| ex_then <| wpc_ret ?_
        refine ex_then_ret ?_
        refine ret1 (.inl rfl) rfl rfl ?_
        exact fun w h => ⟨by rw [chk_8 h5 hk], h.below⟩
       ·
        have hk : okR l = true := by rw [Bool.not_eq_false'] at hc65; exact hc65
        refine wpc_skip <| ex_then <| wpc_seq <| wpc_region <| wpl_q (q_pure rfl) rfl <| wpl_nil <| ex_then <| wpc_ret ?_
        refine ret1 (.inl rfl) rfl rfl ?_
        exact fun w h => ⟨by rw [chk_ok h5 hk], h.below⟩
end Go.Proofs.YtgnablliekgbgaaDoor
namespace Go.Proofs.YtgnablliekgbgaaDoor
open Go Go.PL Go.RowKit
theorem q_mid {P : Program} {n : Cx} {R : World → Prop} {L : Slots} {s t : TypeId} {x : Operand} {m : Nat} {ds : TypeDesc} (hs' : P.underlying s = some ds) (hu : P.underlying t = some (.int .i64)) (hx : ev L x = some (.int .u64 (sr64 (of64 ((m : Nat) : Int)) 1).toNat)) (h : m < 9223372036854775808) : QOp P n R L (.convert s t x) (.int .i64 ((m / 2 : Nat) : Int)) := by
  have e : (sr64 (of64 ((m : Nat) : Int)) 1).toNat = m / 2 := by
    unfold sr64
    rw [UInt64.toNat_ofNat', of64_nat m zz14, show min 1 64 = 1 from rfl, Nat.pow_one]
    omega
  have q := q64_intN (P := P) (n := n) (R := R) hs' hu hx (by rw [e]; omega)
  rwa [e] at q
theorem getD64 {xs : List UInt64} {j : Nat} (hj : j < xs.length) : xs.getD j 0 = xs[j] := by rw [List.getD_eq_getElem?_getD, List.getElem?_eq_getElem hj]; rfl
theorem sr_mem {xs : List UInt64} {s : UInt64} {i : Nat} (hs : ∀ j, j < xs.length → ∀ k, k < j → xs.getD k 0 < xs.getD j 0) (h1 : ∀ k, k < i → k < xs.length → xs.getD k 0 < s) (h2 : ∀ k, i ≤ k → k < xs.length → ¬ xs.getD k 0 < s) : s ∈ xs ↔ i < xs.length ∧ xs.getD i 0 = s := by
  constructor
  · intro hm
    obtain ⟨k, hk, e⟩ := List.mem_iff_getElem.1 hm
    have ek := getD64 hk
    rw [e] at ek
    have hki : i ≤ k := by
      rcases Nat.lt_or_ge k i with h | h
      · have := h1 k h hk
        rw [ek] at this
        exact absurd this (UInt64.lt_irrefl _)
      · exact h
    rcases Nat.lt_or_ge i k with h | h
    · have h3 := hs k hk i h
      rw [ek] at h3
      exact absurd h3 (h2 i (Nat.le_refl _) zz14)
    · obtain rfl : k = i := by omega
      exact ⟨hk, ek⟩
  · rintro ⟨h3, h4⟩
    rw [← h4, getD64 h3]
    exact List.getElem_mem h3
theorem isNaN1 (x : UInt64) (w : World)   :
    Calls Tryd.prog 80 [.int .u64 x.toNat].toArray w (Pur w (.bool false)) := by
  refine enter (m := 6) (R := Mem w [] [] []) Tryd.func80 rfl rfl (Nat.le_of_ble_eq_true rfl) (Mem.start w) ?_
  refine wpc_seq <| wpc_region <| wpl_q (q_pure rfl) rfl <| wpl_nil <| ex_then <| wpc_seq <| wpc_region <| wpl_q (q_pure rfl) rfl <| wpl_q (q_pure rfl) rfl <| wpl_q (q64_neq rfl rfl) rfl <| wpl_q (q_pure rfl) rfl <| wpl_nil ?_
  refine ex_then <| wpc_ret ?_
  refine ret1 (.inl rfl) rfl rfl ?_
  exact fun w h => ⟨zz41, h.below⟩
theorem isNaN2 (x : UInt64) (w : World)   :
    Calls Tryd.prog 53 [.int .u64 x.toNat].toArray w (Pur w (.bool false)) := by
  refine enter (m := 6) (R := Mem w [] [] []) Tryd.func53 rfl rfl (Nat.le_of_ble_eq_true rfl) (Mem.start w) ?_
  refine wpc_seq <| wpc_region <| wpl_q (q_pure rfl) rfl <| wpl_nil <| ex_then <| wpc_seq <| wpc_region <| wpl_q (q_pure rfl) rfl <| wpl_q (q_pure rfl) rfl <| wpl_q (q64_neq rfl rfl) rfl <| wpl_q (q_pure rfl) rfl <| wpl_nil ?_
  refine ex_then <| wpc_ret ?_
  refine ret1 (.inl rfl) rfl rfl ?_
  exact fun w h => ⟨zz41, h.below⟩
theorem less (x : UInt64) (y : UInt64) (w : World)   :
    Calls Tryd.prog 52 [.int .u64 x.toNat, .int .u64 y.toNat].toArray w (Pur w (.bool (decide (x < y)))) := by
  refine enter (m := 17) (R := Mem w [] [] []) Tryd.func52 rfl rfl (Nat.le_of_ble_eq_true rfl) (Mem.start w) ?_
  refine wpc_seq <| wpc_region <| wpl_q (q_pure rfl) rfl <| wpl_nil <| ex_then <| wpc_seq <| wpc_region <| wpl_q (q_pure rfl) rfl ?_
  refine wpl_t (t_pur (v := .bool false) Tryd.hb80 rfl fun w h => isNaN1 x w) rfl (fun b6 => ?_)
  refine wpl_q (q_pure rfl) rfl <| wpl_off rfl rfl rfl rfl <| wpl_off rfl rfl rfl rfl <| wpl_off rfl rfl rfl rfl <| wpl_q (q_pure rfl) rfl <| wpl_q (q_pure rfl) rfl <| wpl_on rfl rfl <| wpl_q (q_pure rfl) rfl <| wpl_on rfl rfl <| wpl_q (q_pure rfl) rfl <| wpl_on rfl rfl <| wpl_q (q_pure rfl) rfl ?_
  refine wpl_q (q_pure rfl) rfl <| wpl_q (q_pure rfl) rfl <| wpl_nil <| ex_then <| wpc_ret ?_
  refine ret1 (.inl rfl) rfl rfl ?_
  exact fun w h => ⟨by first | rfl | (congr 2; exact decide_eq_decide.2 (by rw [UInt64.lt_iff_toNat_lt]; omega)), h.below⟩
theorem binary (av : Value) (xs : List UInt64) (s : UInt64) (w : World) (hav : Seen w.cell? av xs.length 1 (v64s xs)) (hxl : xs.length ≤ 1000) (hsort : ∀ j, j < xs.length → ∀ k, k < j → xs.getD k 0 < xs.getD j 0) :
    Calls Tryd.prog 28 [av, .int .u64 s.toNat].toArray w (GivesP w (fun k : Nat => k ≤ xs.length) (fun k => .tuple #[.int .i64 ((k : Nat) : Int), .bool (decide (s ∈ xs))]) (fun _ => []) (fun _ => [])) := by
  have sav := hav.sv
  have lav := sav.le
  simp only [maxLen] at lav
  refine enter (m := 54) (R := Mem w [] [] []) Tryd.func28 rfl rfl (Nat.le_of_ble_eq_true rfl) (Mem.start w) ?_
  refine wpc_seq <| wpc_region <| wpl_q (q_pure rfl) rfl <| wpl_q (q_pure rfl) rfl <| wpl_nil <| ex_then <| wpc_seq <| wpc_region <| wpl_q (q_pure rfl) rfl ?_
  refine wpl_q (q_lenW Tryd.underlying22 rfl zz3) rfl ?_
  refine wpl_q (q_pure rfl) rfl <| wpl_nil <| ex_then <| wpc_seq <| wpc_region <| wpl_q (q_pure rfl) rfl <| wpl_q (q_pure rfl) rfl <| wpl_q (q_pure rfl) rfl <| wpl_nil <| ex_then <| wpc_seq <| wpc_block ?_
  refine wpc_loopc (ι := { x : Nat × Nat // (x.1 ≤ x.2) ∧ (x.2 ≤ xs.length) ∧ (∀ k, k < x.1 → k < xs.length → xs.getD k 0 < s) ∧ (∀ k, x.2 ≤ k → k < xs.length → ¬ xs.getD k 0 < s) }) [(0, _), (1, _), (6, _)] (fun x Lc => (7, .int .i64 ((x.1.1 : Nat) : Int)) :: (8, .int .i64 ((x.1.2 : Nat) : Int)) :: Lc) (fun x => Mem w [] [] []) (fun x => x.1.2 - x.1.1) ⟨(0, xs.length), ⟨Nat.zero_le _, Nat.le_refl _, fun k hk => absurd hk (Nat.not_lt_zero _), fun k h1 h2 => absurd h2 zz14⟩⟩ zz9 ?_ ?_
  ·
   exact fun w h => h
  ·
   rintro ⟨⟨i, j⟩, ⟨hi0, hi1, hi2, hi3⟩⟩; try dsimp only
   have hi0 : i ≤ j := hi0; have hi1 : j ≤ xs.length := hi1; have hi2 : ∀ k, k < i → k < xs.length → xs.getD k 0 < s := hi2; have hi3 : ∀ k, j ≤ k → k < xs.length → ¬ xs.getD k 0 < s := hi3
   refine wpc_seq <| wpc_seq <| wpc_region <| wpl_q (q_pure rfl) rfl <| wpl_q (q_pure rfl) rfl <| wpl_q (q_pure rfl) rfl <| wpl_nil <| ex_then ?_
   refine wpc_cond rfl (fun hc15 => ?_) (fun hc15 => ?_)
   ·
    simp only [decide_eq_true_eq] at hc15
    have hij : i < j := by omega
    have hmid : (i + j) / 2 < xs.length := by omega
    refine wpc_skip <| ex_then <| wpc_block <| wpc_seq <| wpc_region <| wpl_q (q_pure rfl) rfl <| wpl_q (q_pure rfl) rfl ?_
    refine wpl_q (q_addN rfl rfl zz1) rfl ?_
    refine wpl_q (q64_conv Tryd.underlying3 Tryd.underlying100 rfl) rfl ?_
    refine wpl_q (q64_shr rfl rfl zz23 1 rfl) rfl ?_
    refine wpl_q (q_mid Tryd.underlying100 Tryd.underlying3 rfl zz14) rfl ?_
    refine wpl_q (q_pure rfl) rfl <| wpl_nil <| ex_then <| wpc_seq <| wpc_region <| wpl_q (q_pure rfl) rfl <| wpl_q (q_pure rfl) rfl ?_
    refine wpl_q (q_idxW1 Tryd.underlying22 Tryd.ti23 rfl rfl zz3 zz1) rfl ?_
    refine wpl_q (q_ldW Tryd.underlying23 rfl rfl (fun w h => h.seen_old hav) zz49) rfl ?_
    refine wpl_q (q_pure rfl) rfl ?_
    refine wpl_t (t_pur Tryd.hb52 rfl fun w h => less (xs.getD ((i + j) / 2) 0) s w) rfl (fun b27 => ?_)
    refine wpl_nil <| ex_then ?_
    refine wpc_cond rfl (fun hc27 => ?_) (fun hc27 => ?_)
    ·
     have hls : xs.getD ((i + j) / 2) 0 < s := of_decide_eq_true hc27
     have hlt : ∀ k, k ≤ (i + j) / 2 → k < xs.length → xs.getD k 0 < s := fun k h1 h2 => by
       rcases Nat.lt_or_ge k ((i + j) / 2) with h | h
       · exact UInt64.lt_trans (hsort _ hmid k h) hls
       · obtain rfl : k = (i + j) / 2 := by omega
         exact hls
     refine wpc_region <| wpl_q (q_pure rfl) rfl ?_
     refine wpl_q (q_addN (b := 1) rfl rfl zz1) rfl ?_
     refine wpl_q (q_pure rfl) rfl <| wpl_nil <| ex_block ?_
     refine ex_again ⟨((i + j) / 2 + 1, j), ⟨zz14, zz14, by first | exact hi2 | (intro k h1 h2; exact hlt k zz14 h2), by first | exact hi3 | (intro k h1 h2; exact hge k zz14 h2)⟩⟩ ?_ ?_ ?_
     ·
      exact zz9
     ·
      exact fun w h => by first | exact h | exact h.sub SubC.h SubC.h | exact h.sub zz8 zz8
     ·
      (show (j) - ((i + j) / 2 + 1) < j - i); omega
    ·
     have hls : ¬ xs.getD ((i + j) / 2) 0 < s := of_decide_eq_false hc27
     have hge : ∀ k, (i + j) / 2 ≤ k → k < xs.length → ¬ xs.getD k 0 < s := fun k h1 h2 h3 => by
       rcases Nat.lt_or_ge ((i + j) / 2) k with h | h
       · exact hls (UInt64.lt_trans (hsort k h2 _ h) h3)
       · obtain rfl : k = (i + j) / 2 := by omega
         exact hls h3
     refine wpc_region <| wpl_q (q_pure rfl) rfl <| wpl_q (q_pure rfl) rfl <| wpl_nil <| ex_block ?_
     refine ex_again ⟨(i, (i + j) / 2), ⟨zz14, zz14, by first | exact hi2 | (intro k h1 h2; exact hlt k zz14 h2), by first | exact hi3 | (intro k h1 h2; exact hge k zz14 h2)⟩⟩ ?_ ?_ ?_
     ·
      exact zz9
     ·
      exact fun w h => by first | exact h | exact h.sub SubC.h SubC.h | exact h.sub zz8 zz8
     ·
      (show ((i + j) / 2) - (i) < j - i); omega
   ·
    simp only [decide_eq_false_iff_not] at hc15
    obtain rfl : i = j := by omega
    have hsm := sr_mem hsort hi2 hi3
    refine wpc_exit ?_
    refine ex_then_exit ?_
    refine ex_then_exit ?_
    refine ex_block_hit ?_
    refine ex_then <| wpc_seq <| wpc_region <| wpl_q (q_pure rfl) rfl <| wpl_q (q_pure rfl) rfl <| wpl_q (q_pure rfl) rfl <| wpl_q (q_pure rfl) rfl <| wpl_q (q_pure rfl) rfl ?_
    refine wpl_bool2 35 34 rfl rfl (fun hb35 => ?_) (fun hb35 => ?_)
    ·
     have hil : i < xs.length := by have := of_decide_eq_true hb35; omega
     refine wpl_on rfl rfl <| wpl_q (q_pure rfl) rfl <| wpl_on rfl rfl <| wpl_q (q_pure rfl) rfl <| wpl_on rfl rfl ?_
     refine wpl_q (q_idxW1 Tryd.underlying22 Tryd.ti23 rfl rfl zz3 zz1) rfl ?_
     refine wpl_on rfl rfl ?_
     refine wpl_q (q_ldW Tryd.underlying23 rfl rfl (fun w h => h.seen_old hav) zz49) rfl ?_
     refine wpl_on rfl rfl <| wpl_q (q_pure rfl) rfl <| wpl_on rfl rfl <| wpl_q (q64_eql rfl rfl) rfl <| wpl_on rfl rfl <| wpl_q (q_pure rfl) rfl ?_
     refine wpl_bool2 42 41 rfl rfl (fun hb42 => ?_) (fun hb42 => ?_)
     ·
      have he : xs.getD i 0 = s := of_decide_eq_true hb42
      refine wpl_off rfl rfl rfl rfl <| wpl_off rfl rfl rfl rfl <| wpl_off rfl rfl rfl rfl <| wpl_off rfl rfl rfl rfl <| wpl_off rfl rfl rfl rfl <| wpl_off rfl rfl rfl rfl <| wpl_off rfl rfl rfl rfl <| wpl_off rfl rfl rfl rfl <| wpl_off rfl rfl rfl rfl <| wpl_on rfl rfl <| wpl_q (q_pure rfl) rfl <| wpl_q (q_pure rfl) rfl ?_
      refine wpl_q (q_pure rfl) rfl <| wpl_q (q_pure rfl) rfl <| wpl_nil <| ex_then <| wpc_ret ?_
      refine ret2 (.inl rfl) rfl rfl rfl ?_
      exact fun w h => ⟨i, hi1, by dsimp only; rw [decide_eq_decide.2 hsm]; first | (rw [decide_eq_true (show i < xs.length ∧ xs.getD i 0 = s from ⟨hil, he⟩)]; done) | (rw [decide_eq_false (show ¬ (i < xs.length ∧ xs.getD i 0 = s) from fun q => hil q.1)]; done) | (rw [decide_eq_false (show ¬ (i < xs.length ∧ xs.getD i 0 = s) from fun q => he q.2)]; done), h.below, h.made .nil .nil⟩
     ·
      have he : ¬ xs.getD i 0 = s := of_decide_eq_false hb42
      refine wpl_on rfl rfl <| wpl_q (q_pure rfl) rfl <| wpl_on rfl rfl <| wpl_q (q_pure rfl) rfl <| wpl_on rfl rfl ?_
      refine wpl_q (q_idxW1 Tryd.underlying22 Tryd.ti23 rfl rfl zz3 zz1) rfl ?_
      refine wpl_on rfl rfl ?_
      refine wpl_q (q_ldW Tryd.underlying23 rfl rfl (fun w h => h.seen_old hav) zz49) rfl ?_
      refine wpl_on rfl rfl ?_
      refine wpl_t (t_pur (v := .bool false) Tryd.hb53 rfl fun w h => isNaN2 _ w) rfl (fun b47 => ?_)
      refine wpl_on rfl rfl <| wpl_q (q_pure rfl) rfl <| wpl_off rfl rfl rfl rfl <| wpl_off rfl rfl rfl rfl <| wpl_on rfl rfl <| wpl_q (q_pure rfl) rfl <| wpl_on rfl rfl <| wpl_q (q_pure rfl) rfl <| wpl_q (q_pure rfl) rfl <| wpl_q (q_pure rfl) rfl <| wpl_q (q_pure rfl) rfl <| wpl_nil ?_
      refine ex_then <| wpc_ret ?_
      refine ret2 (.inl rfl) rfl rfl rfl ?_
      exact fun w h => ⟨i, hi1, by dsimp only; rw [decide_eq_decide.2 hsm]; first | (rw [decide_eq_true (show i < xs.length ∧ xs.getD i 0 = s from ⟨hil, he⟩)]; done) | (rw [decide_eq_false (show ¬ (i < xs.length ∧ xs.getD i 0 = s) from fun q => hil q.1)]; done) | (rw [decide_eq_false (show ¬ (i < xs.length ∧ xs.getD i 0 = s) from fun q => he q.2)]; done), h.below, h.made .nil .nil⟩
    ·
     have hil : ¬ i < xs.length := by have := of_decide_eq_false hb35; omega
     refine wpl_off rfl rfl rfl rfl <| wpl_off rfl rfl rfl rfl <| wpl_off rfl rfl rfl rfl <| wpl_off rfl rfl rfl rfl <| wpl_off rfl rfl rfl rfl <| wpl_off rfl rfl rfl rfl <| wpl_off rfl rfl rfl rfl <| wpl_off rfl rfl rfl rfl <| wpl_off rfl rfl rfl rfl <| wpl_off rfl rfl rfl rfl <| wpl_off rfl rfl rfl rfl <| wpl_off rfl rfl rfl rfl ?_
     refine wpl_off rfl rfl rfl rfl <| wpl_off rfl rfl rfl rfl <| wpl_off rfl rfl rfl rfl <| wpl_off rfl rfl rfl rfl <| wpl_off rfl rfl rfl rfl <| wpl_q (q_pure rfl) rfl <| wpl_q (q_pure rfl) rfl <| wpl_q (q_pure rfl) rfl <| wpl_nil <| ex_then <| wpc_ret ?_
     refine ret2 (.inl rfl) rfl rfl rfl ?_
     exact fun w h => ⟨i, hi1, by dsimp only; rw [decide_eq_decide.2 hsm]; first | (rw [decide_eq_true (show i < xs.length ∧ xs.getD i 0 = s from ⟨hil, he⟩)]; done) | (rw [decide_eq_false (show ¬ (i < xs.length ∧ xs.getD i 0 = s) from fun q => hil q.1)]; done) | (rw [decide_eq_false (show ¬ (i < xs.length ∧ xs.getD i 0 = s) from fun q => he q.2)]; done), h.below, h.made .nil .nil⟩
end Go.Proofs.YtgnablliekgbgaaDoor
namespace Go.Proofs.YtgnablliekgbgaaDoor
open Go Go.PL Go.RowKit
theorem eq8_41 : Eq8 Tryd.prog 41 16 := eqc_array Tryd.underlying41 Tryd.ti41 Tryd.ti5 rfl (eqc_int Tryd.underlying5 Tryd.ti5)
theorem same_step64 (xs ys : List UInt64) (i : Nat) (h : xs.take i = ys.take i) (hx : i < xs.length) (hy : i < ys.length) (e : xs.getD i 0 = ys.getD i 0) : xs.take (i + 1) = ys.take (i + 1) := by
  rw [List.take_add_one, List.take_add_one, h, List.getElem?_eq_getElem hx, List.getElem?_eq_getElem hy]
  rw [getD64 hx, getD64 hy] at e
  rw [e]
theorem same_stepS (xs ys : List (List UInt8)) (i : Nat) (h : xs.take i = ys.take i) (hx : i < xs.length) (hy : i < ys.length) (e : xs.getD i [] = ys.getD i []) : xs.take (i + 1) = ys.take (i + 1) := by
  rw [List.take_add_one, List.take_add_one, h, List.getElem?_eq_getElem hx, List.getElem?_eq_getElem hy]
  rw [List.getD_eq_getElem?_getD, List.getElem?_eq_getElem hx, List.getD_eq_getElem?_getD, List.getElem?_eq_getElem hy] at e
  have e : xs[i] = ys[i] := e
  rw [e]
theorem sameNumbers (av : Value) (xs : List UInt64) (bv : Value) (ys : List UInt64) (w : World) (hav : Seen w.cell? av xs.length 1 (v64s xs)) (hbv : Seen w.cell? bv ys.length 1 (v64s ys))  :
    Calls Tryd.prog 69 [av, bv].toArray w (Pur w (.bool (decide (xs = ys)))) := by
  have sav := hav.sv
  have lav := sav.le
  simp only [maxLen] at lav
  have sbv := hbv.sv
  have lbv := sbv.le
  simp only [maxLen] at lbv
  refine enter (m := 26) (R := Mem w [] [] []) Tryd.func69 rfl rfl (Nat.le_of_ble_eq_true rfl) (Mem.start w) ?_
  refine wpc_seq <| wpc_region <| wpl_q (q_pure rfl) rfl <| wpl_nil <| ex_then <| wpc_seq <| wpc_seq <| wpc_region <| wpl_q (q_pure rfl) rfl ?_
  refine wpl_q (q_lenW Tryd.underlying22 rfl zz3) rfl ?_
  refine wpl_q (q_pure rfl) rfl ?_
  refine wpl_q (q_lenW Tryd.underlying22 rfl zz3) rfl ?_
  refine wpl_q (q_pure rfl) rfl <| wpl_nil <| ex_then ?_
  refine wpc_cond rfl (fun hc10 => ?_) (fun hc10 => ?_)
  ·
   simp only [decide_eq_true_eq, bne_iff_ne, ne_eq] at hc10
   have hne : xs ≠ ys := fun e => hc10 (by rw [e])
   refine wpc_seq <| wpc_region <| wpl_q (q_pure rfl) rfl <| wpl_nil <| ex_then <| wpc_ret ?_
   refine ex_then_ret ?_
   refine ret1 (.inl rfl) rfl rfl ?_
   exact fun w h => ⟨by simp [hne], h.below⟩
  ·
   simp only [bne_eq_false_iff_eq] at hc10
   have hl : xs.length = ys.length := by omega
   refine wpc_skip <| ex_then <| wpc_seq <| wpc_seq <| wpc_region <| wpl_q (q_pure rfl) rfl <| wpl_nil <| ex_then <| wpc_block ?_
   refine wpc_loopc (ι := { x : Nat // (x ≤ xs.length) ∧ (xs.take x = ys.take x) }) [(0, _), (1, _)] (fun x Lc => (5, .int .i64 ((x.1 : Nat) : Int)) :: Lc) (fun x => Mem w [] [] []) (fun x => xs.length - x.1) ⟨0, ⟨Nat.zero_le _, rfl⟩⟩ zz9 ?_ ?_
   ·
    exact fun w h => h
   ·
    rintro ⟨i, ⟨hi0, hi1⟩⟩; try dsimp only
    have hi0 : i ≤ xs.length := hi0; have hi1 : xs.take i = ys.take i := hi1
    refine wpc_seq <| wpc_seq <| wpc_region <| wpl_q (q_pure rfl) rfl <| wpl_q (q_pure rfl) rfl ?_
    refine wpl_q (q_lenW Tryd.underlying22 rfl zz3) rfl ?_
    refine wpl_q (q_pure rfl) rfl <| wpl_nil <| ex_then ?_
    refine wpc_cond rfl (fun hc14 => ?_) (fun hc14 => ?_)
    ·
     try simp only [decide_eq_true_eq, decide_eq_false_iff_not, Bool.and_eq_true, Bool.or_eq_true, beq_iff_eq, bne_iff_ne, ne_eq, Bool.not_eq_true', Bool.not_eq_false', Decidable.not_not] at hc14
     refine wpc_skip <| ex_then <| wpc_seq <| wpc_block <| wpc_seq ?_
     refine wpc_draw 9 zz7 (fun _ h => h.drew) ?_
     refine wpd_p 0 rfl zz7 trivial (q_pure rfl) rfl sk0 ?_
     refine wpd_p 1 rfl zz7 trivial (q_pure rfl) rfl sk0 ?_
     refine wpd_p 2 rfl zz7 trivial (q_idxW1 Tryd.underlying22 Tryd.ti23 rfl rfl zz3 zz1) rfl sk0 ?_
     refine wpd_q 3 rfl zz7 trivial (q_ldW Tryd.underlying23 rfl rfl (fun w h => zz15) zz49) rfl (fun _ h => h) ?_
     refine wpd_p 4 rfl zz7 trivial (q_pure rfl) rfl sk0 ?_
     refine wpd_p 5 rfl zz7 trivial (q_pure rfl) rfl sk0 ?_
     refine wpd_p 6 rfl zz7 trivial (q_idxW1 Tryd.underlying22 Tryd.ti23 rfl rfl zz3 zz1) rfl sk0 ?_
     refine wpd_q 7 rfl zz7 trivial (q_ldW Tryd.underlying23 rfl rfl (fun w h => zz15) zz49) rfl (fun _ h => h) ?_
     refine wpd_p 8 rfl zz7 trivial (q64_neq rfl rfl) rfl sk0 ?_
     refine wpd_done zz7 ?_
     refine ex_then ?_
     refine wpc_cond rfl (fun hc25 => ?_) (fun hc25 => ?_)
     ·
      have hee : ¬ xs.getD i 0 = ys.getD i 0 := by simpa using hc25
      have hne : xs ≠ ys := fun e => hee (by rw [e])
      refine wpc_seq <| wpc_region <| wpl_q (q_pure rfl) rfl <| wpl_nil <| ex_then <| wpc_ret ?_
      refine ex_block_ret ?_
      refine ex_then_ret ?_
      refine ex_then_ret ?_
      refine ex_block_ret ?_
      refine ex_then_ret ?_
      refine ret1 (.inl rfl) rfl rfl ?_
      exact fun w h => ⟨by simp [hne], h.below⟩
     ·
      have hee : xs.getD i 0 = ys.getD i 0 := by simpa using hc25
      refine wpc_skip <| ex_block <| ex_then <| wpc_region <| wpl_q (q_pure rfl) rfl ?_
      refine wpl_q (q_addN (b := 1) rfl rfl zz1) rfl ?_
      refine wpl_q (q_pure rfl) rfl <| wpl_nil ?_
      refine ex_again ⟨i + 1, ⟨by show i + 1 ≤ xs.length; omega, same_step64 xs ys i hi1 zz14 zz14 hee⟩⟩ ?_ ?_ ?_
      ·
       exact zz9
      ·
       exact fun w h => by first | exact h | exact h.sub SubC.h SubC.h | exact h.sub zz8 zz8
      ·
       (show xs.length - (i + 1) < xs.length - i); omega
    ·
     simp only [decide_eq_false_iff_not] at hc14
     obtain rfl : i = xs.length := by omega
     have heq : xs = ys := by rw [List.take_length, hl, List.take_length] at hi1; exact hi1
     refine wpc_exit ?_
     refine ex_then_exit ?_
     refine ex_then_exit ?_
     refine ex_block_hit ?_
     refine ex_then <| wpc_seq <| wpc_region <| wpl_q (q_pure rfl) rfl <| wpl_nil <| ex_then <| wpc_ret ?_
     refine ret1 (.inl rfl) rfl rfl ?_
     exact fun w h => ⟨by simp [heq], h.below⟩
theorem sameShorts (av : Value) (xs : List (List UInt8)) (bv : Value) (ys : List (List UInt8)) (w : World) (hav : Seen w.cell? av xs.length 16 (v8s xs.flatten)) (hlxs : ∀ x ∈ xs, x.length = 16) (hbv : Seen w.cell? bv ys.length 16 (v8s ys.flatten)) (hlys : ∀ x ∈ ys, x.length = 16)  :
    Calls Tryd.prog 90 [av, bv].toArray w (Pur w (.bool (decide (xs = ys)))) := by
  have sav := hav.sv
  have lav := sav.le
  simp only [maxLen] at lav
  have sbv := hbv.sv
  have lbv := sbv.le
  simp only [maxLen] at lbv
  refine enter (m := 26) (R := Mem w [] [] []) Tryd.func90 rfl rfl (Nat.le_of_ble_eq_true rfl) (Mem.start w) ?_
  refine wpc_seq <| wpc_region <| wpl_q (q_pure rfl) rfl <| wpl_nil <| ex_then <| wpc_seq <| wpc_seq <| wpc_region <| wpl_q (q_pure rfl) rfl ?_
  refine wpl_q (q_lenW Tryd.underlying28 rfl zz3) rfl ?_
  refine wpl_q (q_pure rfl) rfl ?_
  refine wpl_q (q_lenW Tryd.underlying28 rfl zz3) rfl ?_
  refine wpl_q (q_pure rfl) rfl <| wpl_nil <| ex_then ?_
  refine wpc_cond rfl (fun hc10 => ?_) (fun hc10 => ?_)
  ·
   simp only [decide_eq_true_eq, bne_iff_ne, ne_eq] at hc10
   have hne : xs ≠ ys := fun e => hc10 (by rw [e])
   refine wpc_seq <| wpc_region <| wpl_q (q_pure rfl) rfl <| wpl_nil <| ex_then <| wpc_ret ?_
   refine ex_then_ret ?_
   refine ret1 (.inl rfl) rfl rfl ?_
   exact fun w h => ⟨by simp [hne], h.below⟩
  ·
   simp only [bne_eq_false_iff_eq] at hc10
   have hl : xs.length = ys.length := by omega
   refine wpc_skip <| ex_then <| wpc_seq <| wpc_seq <| wpc_region <| wpl_q (q_pure rfl) rfl <| wpl_nil <| ex_then <| wpc_block ?_
   refine wpc_loopc (ι := { x : Nat // (x ≤ xs.length) ∧ (xs.take x = ys.take x) }) [(0, _), (1, _)] (fun x Lc => (5, .int .i64 ((x.1 : Nat) : Int)) :: Lc) (fun x => Mem w [] [] []) (fun x => xs.length - x.1) ⟨0, ⟨Nat.zero_le _, rfl⟩⟩ zz9 ?_ ?_
   ·
    exact fun w h => h
   ·
    rintro ⟨i, ⟨hi0, hi1⟩⟩; try dsimp only
    have hi0 : i ≤ xs.length := hi0; have hi1 : xs.take i = ys.take i := hi1
    refine wpc_seq <| wpc_seq <| wpc_region <| wpl_q (q_pure rfl) rfl <| wpl_q (q_pure rfl) rfl ?_
    refine wpl_q (q_lenW Tryd.underlying28 rfl zz3) rfl ?_
    refine wpl_q (q_pure rfl) rfl <| wpl_nil <| ex_then ?_
    refine wpc_cond rfl (fun hc14 => ?_) (fun hc14 => ?_)
    ·
     simp only [decide_eq_true_eq] at hc14
     have g1 := getD_mem_len hlxs (i := i) zz14
     have g2 := getD_mem_len hlys (i := i) zz14
     refine wpc_skip <| ex_then <| wpc_seq <| wpc_block <| wpc_seq ?_
     refine wpc_draw 9 zz7 (fun _ h => h.drew) ?_
     refine wpd_p 0 rfl zz7 trivial (q_pure rfl) rfl sk0 ?_
     refine wpd_p 1 rfl zz7 trivial (q_pure rfl) rfl sk0 ?_
     refine wpd_p 2 rfl zz7 trivial (q_idxW Tryd.underlying28 Tryd.ti41 rfl rfl zz3 zz1) rfl sk0 ?_
     refine wpd_q 3 rfl zz7 trivial (q_ldWN Tryd.underlying41 rfl Tryd.ti41 rfl (fun w h => zz15) (v8s (xs.getD i [])) (part8 hlxs zz14) ((v8s_length _).trans g1)) rfl (fun _ h => h) ?_
     refine wpd_p 4 rfl zz7 trivial (q_pure rfl) rfl sk0 ?_
     refine wpd_p 5 rfl zz7 trivial (q_pure rfl) rfl sk0 ?_
     refine wpd_p 6 rfl zz7 trivial (q_idxW Tryd.underlying28 Tryd.ti41 rfl rfl zz3 zz1) rfl sk0 ?_
     refine wpd_q 7 rfl zz7 trivial (q_ldWN Tryd.underlying41 rfl Tryd.ti41 rfl (fun w h => zz15) (v8s (ys.getD i [])) (part8 hlys zz14) ((v8s_length _).trans g2)) rfl (fun _ h => h) ?_
     refine wpd_p 8 rfl zz7 trivial (q_ne8 eq8_41 zz7 rfl rfl (by first | (first | with_reducible assumption | exact L16.h) | simp) (by first | (first | with_reducible assumption | exact L16.h) | simp)) rfl sk0 ?_
     refine wpd_done zz7 ?_
     refine ex_then ?_
     refine wpc_cond rfl (fun hc25 => ?_) (fun hc25 => ?_)
     ·
      have hee : ¬ xs.getD i [] = ys.getD i [] := by simpa using hc25
      have hne : xs ≠ ys := fun e => hee (by rw [e])
      refine wpc_seq <| wpc_region <| wpl_q (q_pure rfl) rfl <| wpl_nil <| ex_then <| wpc_ret ?_
      refine ex_block_ret ?_
      refine ex_then_ret ?_
      refine ex_then_ret ?_
      refine ex_block_ret ?_
      refine ex_then_ret ?_
      refine ret1 (.inl rfl) rfl rfl ?_
      exact fun w h => ⟨by simp [hne], h.below⟩
     ·
      have hee : xs.getD i [] = ys.getD i [] := by simpa using hc25
      refine wpc_skip <| ex_block <| ex_then <| wpc_region <| wpl_q (q_pure rfl) rfl ?_
      refine wpl_q (q_addN (b := 1) rfl rfl zz1) rfl ?_
      refine wpl_q (q_pure rfl) rfl <| wpl_nil ?_
      refine ex_again ⟨i + 1, ⟨by show i + 1 ≤ xs.length; omega, same_stepS xs ys i hi1 zz14 zz14 hee⟩⟩ ?_ ?_ ?_
      ·
       exact zz9
      ·
       exact fun w h => by first | exact h | exact h.sub SubC.h SubC.h | exact h.sub zz8 zz8
      ·
       (show xs.length - (i + 1) < xs.length - i); omega
    ·
     simp only [decide_eq_false_iff_not] at hc14
     obtain rfl : i = xs.length := by omega
     have heq : xs = ys := by rw [List.take_length, hl, List.take_length] at hi1; exact hi1
     refine wpc_exit ?_
     refine ex_then_exit ?_
     refine ex_then_exit ?_
     refine ex_block_hit ?_
     refine ex_then <| wpc_seq <| wpc_region <| wpl_q (q_pure rfl) rfl <| wpl_nil <| ex_then <| wpc_ret ?_
     refine ret1 (.inl rfl) rfl rfl ?_
     exact fun w h => ⟨by simp [heq], h.below⟩
end Go.Proofs.YtgnablliekgbgaaDoor
namespace Go.Proofs.YtgnablliekgbgaaDoor
open Go Go.PL Go.RowKit
theorem eqWin : EqC Tryd.prog 2 27 true 2 (fun cs => cs.length = 2 ∧ (IntCell .i64 ((cs.drop 0).take 1) ∧ (IntCell .i64 ((cs.drop 1).take 1) ∧ True))) := by
  refine eqc_struct Tryd.underlying27 Tryd.ti27 zz7 ?_
  refine EqFs.cons (sz := 1) (W := IntCell .i64) zz7 rfl (eqc_int Tryd.underlying2 Tryd.ti2) ?_
  refine EqFs.cons (sz := 1) (W := IntCell .i64) zz7 rfl (eqc_int Tryd.underlying2 Tryd.ti2) ?_
  exact EqFs.nil _
def wnL (a b : Int) : List Value := [.int .i64 a, .int .i64 b]
theorem wnL_inj {a b c d : Int} (h : wnL a b = wnL c d) : a = c ∧ b = d := by
  unfold wnL at h
  obtain ⟨h1, h2⟩ := List.cons.inj h
  obtain ⟨h3, _⟩ := List.cons.inj h2
  exact ⟨(Value.int.inj h1).2, (Value.int.inj h3).2⟩
theorem q_eqWin {n : Cx} {R : World → Prop} {L : Slots} {t' : TypeId} {x y : Operand} {a b c d : Int} (hx : ev L x = some (.agg (wnL a b).toArray)) (hy : ev L y = some (.agg (wnL c d).toArray)) : QOp Tryd.prog n R L (.binOp .eql 27 x y t') (.bool (decide (a = c ∧ b = d))) :=
  q_eqA eqWin zz20 zz7 hx hy ⟨rfl, ⟨_, rfl⟩, ⟨_, rfl⟩, trivial⟩ ⟨rfl, ⟨_, rfl⟩, ⟨_, rfl⟩, trivial⟩ _ (by
    rw [decide_eq_true_eq]; exact ⟨fun e => by rw [e.1, e.2], wnL_inj⟩)
theorem sameSig (ix1 : Int) (cv1 pv1 : Value) (chs1 ps1 : List (List UInt8)) (ix2 : Int) (cv2 pv2 : Value) (chs2 ps2 : List (List UInt8)) (w : World) (hcv1 : Seen w.cell? cv1 chs1.length 16 (v8s chs1.flatten)) (hlc1 : ∀ x ∈ chs1, x.length = 16) (hpv1 : Seen w.cell? pv1 ps1.length 16 (v8s ps1.flatten)) (hlp1 : ∀ x ∈ ps1, x.length = 16) (hcv2 : Seen w.cell? cv2 chs2.length 16 (v8s chs2.flatten)) (hlc2 : ∀ x ∈ chs2, x.length = 16) (hpv2 : Seen w.cell? pv2 ps2.length 16 (v8s ps2.flatten)) (hlp2 : ∀ x ∈ ps2, x.length = 16)  :
    Calls Tryd.prog 70 [.agg #[.int .i64 ix1, cv1, pv1], .agg #[.int .i64 ix2, cv2, pv2]].toArray w (Pur w (.bool (decide (ix1 = ix2 ∧ chs1 = chs2 ∧ ps1 = ps2)))) := by
  haveI : OneC [.int .i64 ix1, cv1, pv1] := OneC.cons rfl (OneC.cons (SV.one hcv1.sv) (OneC.cons (SV.one hpv1.sv) oneC_nil))
  haveI : OneC [.int .i64 ix2, cv2, pv2] := OneC.cons rfl (OneC.cons (SV.one hcv2.sv) (OneC.cons (SV.one hpv2.sv) oneC_nil))
  refine enter (m := 24) (R := Mem w [] [] []) Tryd.func70 rfl rfl (Nat.le_of_ble_eq_true rfl) (Mem.start w) ?_
  refine wpc_seq <| wpc_region ?_
  refine wpl_t (t_box rfl [.int .i64 ix1, cv1, pv1] rfl) rfl (fun b2 => ?_)
  refine wpl_t (t_box rfl [.int .i64 ix2, cv2, pv2] rfl) rfl (fun b3 => ?_)
  refine wpl_q (q_pure rfl) rfl <| wpl_nil <| ex_then <| wpc_seq <| wpc_region <| wpl_q (q_field Tryd.underlying30 rfl Tryd.ti3 rfl rfl _ rfl) rfl ?_
  refine wpl_q (q_ld Tryd.underlying3 rfl rfl zz26) rfl ?_
  refine wpl_q (q_field Tryd.underlying30 rfl Tryd.ti3 rfl rfl _ rfl) rfl ?_
  refine wpl_q (q_ld Tryd.underlying3 rfl rfl zz26) rfl ?_
  refine wpl_q (q_pure rfl) rfl <| wpl_q (q_pure rfl) rfl ?_
  refine wpl_bool2 10 9 rfl rfl (fun hb10 => ?_) (fun hb10 => ?_)
  ·
   have e1 : ix1 = ix2 := by simpa using hb10
   refine wpl_on rfl rfl <| wpl_q (q_field Tryd.underlying30 rfl Tryd.ti28 rfl rfl _ rfl) rfl <| wpl_on rfl rfl <| wpl_q (q_ld Tryd.underlying28 rfl rfl rfl) rfl <| wpl_on rfl rfl <| wpl_q (q_field Tryd.underlying30 rfl Tryd.ti28 rfl rfl _ rfl) rfl <| wpl_on rfl rfl <| wpl_q (q_ld Tryd.underlying28 rfl rfl rfl) rfl <| wpl_on rfl rfl ?_
   refine wpl_t (t_pur Tryd.hb90 rfl fun w h => sameShorts cv1 chs1 cv2 chs2 w (h.seen_old hcv1) hlc1 (h.seen_old hcv2) hlc2) rfl (fun b15 => ?_)
   refine wpl_q (q_pure rfl) rfl <| wpl_q (q_pure rfl) rfl ?_
   refine wpl_bool2 17 15 rfl rfl (fun hb17 => ?_) (fun hb17 => ?_)
   ·
    have e2 : chs1 = chs2 := by simpa using hb17
    refine wpl_on rfl rfl <| wpl_q (q_field Tryd.underlying30 rfl Tryd.ti28 rfl rfl _ rfl) rfl <| wpl_on rfl rfl <| wpl_q (q_ld Tryd.underlying28 rfl rfl rfl) rfl <| wpl_on rfl rfl <| wpl_q (q_field Tryd.underlying30 rfl Tryd.ti28 rfl rfl _ rfl) rfl <| wpl_on rfl rfl <| wpl_q (q_ld Tryd.underlying28 rfl rfl rfl) rfl <| wpl_on rfl rfl ?_
    refine wpl_t (t_pur Tryd.hb90 rfl fun w h => sameShorts pv1 ps1 pv2 ps2 w (h.seen_old hpv1) hlp1 (h.seen_old hpv2) hlp2) rfl (fun b22 => ?_)
    refine wpl_q (q_pure rfl) rfl <| wpl_q (q_pure rfl) rfl <| wpl_nil <| ex_then <| wpc_ret ?_
    refine ret1 (.inl rfl) rfl rfl ?_
    exact fun w h => ⟨congrArg (fun b => Ending.returned (Value.bool b)) zz30, h.below⟩
   ·
    have e2 : ¬ chs1 = chs2 := by simpa using hb17
    refine wpl_off rfl rfl rfl rfl <| wpl_off rfl rfl rfl rfl <| wpl_off rfl rfl rfl rfl <| wpl_off rfl rfl rfl rfl <| wpl_off rfl rfl rfl rfl <| wpl_q (q_pure rfl) rfl <| wpl_q (q_pure rfl) rfl <| wpl_nil <| ex_then <| wpc_ret ?_
    refine ret1 (.inl rfl) rfl rfl ?_
    exact fun w h => ⟨congrArg (fun b => Ending.returned (Value.bool b)) zz30, h.below⟩
  ·
   have e1 : ¬ ix1 = ix2 := by simpa using hb10
   refine wpl_off rfl rfl rfl rfl <| wpl_off rfl rfl rfl rfl <| wpl_off rfl rfl rfl rfl <| wpl_off rfl rfl rfl rfl <| wpl_off rfl rfl rfl rfl <| wpl_q (q_pure rfl) rfl <| wpl_q (q_pure rfl) rfl <| wpl_off rfl rfl rfl rfl <| wpl_off rfl rfl rfl rfl <| wpl_off rfl rfl rfl rfl <| wpl_off rfl rfl rfl rfl <| wpl_off rfl rfl rfl rfl ?_
   refine wpl_q (q_pure rfl) rfl <| wpl_q (q_pure rfl) rfl <| wpl_nil <| ex_then <| wpc_ret ?_
   refine ret1 (.inl rfl) rfl rfl ?_
   exact fun w h => ⟨congrArg (fun b => Ending.returned (Value.bool b)) zz30, h.below⟩
theorem refRvSame (a : Rv) (b : Rv) (w : World) (hla : a.seen w.cell?) (hlb : b.seen w.cell?)  :
    Calls Tryd.prog 43 [.agg a.c.toArray, .agg b.c.toArray].toArray w (Pur w (.bool (decide (a.eqv b)))) := by
  haveI := hla.svs.one
  haveI := hlb.svs.one
  refine enter (m := 38) (R := Mem w [] [] []) Tryd.func43 rfl rfl (Nat.le_of_ble_eq_true rfl) (Mem.start w) ?_
  refine wpc_seq <| wpc_region ?_
  refine wpl_t (t_box rfl a.c rfl) rfl (fun b2 => ?_)
  refine wpl_t (t_box rfl b.c rfl) rfl (fun b3 => ?_)
  refine wpl_q (q_pure rfl) rfl <| wpl_nil <| ex_then <| wpc_seq <| wpc_region <| wpl_q (q_field Tryd.underlying32 rfl Tryd.ti9 rfl rfl _ rfl) rfl <| wpl_q (q_ld Tryd.underlying9 rfl rfl (show a.c[0]? = some (str a.nm) from rfl)) rfl <| wpl_q (q_field Tryd.underlying32 rfl Tryd.ti9 rfl rfl _ rfl) rfl <| wpl_q (q_ld Tryd.underlying9 rfl rfl (show b.c[0]? = some (str b.nm) from rfl)) rfl ?_
  refine wpl_q (q_strEq Tryd.underlying9 rfl rfl zz7) rfl ?_
  refine wpl_q (q_pure rfl) rfl ?_
  refine wpl_bool2 10 9 rfl rfl (fun hb10 => ?_) (fun hb10 => ?_)
  ·
   have e1 : a.nm = b.nm := by simpa using hb10
   refine wpl_on rfl rfl <| wpl_q (q_field Tryd.underlying32 rfl Tryd.ti23 rfl rfl _ rfl) rfl <| wpl_on rfl rfl <| wpl_q (q_ld Tryd.underlying23 rfl rfl (show a.c[1]? = some (.int .u64 (a.no.toNat : Int)) from rfl)) rfl <| wpl_on rfl rfl <| wpl_q (q_field Tryd.underlying32 rfl Tryd.ti23 rfl rfl _ rfl) rfl <| wpl_on rfl rfl <| wpl_q (q_ld Tryd.underlying23 rfl rfl (show b.c[1]? = some (.int .u64 (b.no.toNat : Int)) from rfl)) rfl <| wpl_on rfl rfl <| wpl_q (q64_eql rfl rfl) rfl <| wpl_q (q_pure rfl) rfl <| wpl_q (q_pure rfl) rfl ?_
   refine wpl_bool2 17 15 rfl rfl (fun hb17 => ?_) (fun hb17 => ?_)
   ·
    have e2 : a.no = b.no := by simpa using hb17
    refine wpl_on rfl rfl <| wpl_q (q_field Tryd.underlying32 rfl Tryd.ti27 rfl rfl _ rfl) rfl <| wpl_on rfl rfl <| wpl_q (q_ldP Tryd.underlying27 rfl Tryd.ti27 rfl (wnL a.fr a.tt) rfl rfl) rfl <| wpl_on rfl rfl <| wpl_q (q_field Tryd.underlying32 rfl Tryd.ti27 rfl rfl _ rfl) rfl <| wpl_on rfl rfl <| wpl_q (q_ldP Tryd.underlying27 rfl Tryd.ti27 rfl (wnL b.fr b.tt) rfl rfl) rfl <| wpl_on rfl rfl <| wpl_q (q_eqWin rfl rfl) rfl <| wpl_q (q_pure rfl) rfl <| wpl_q (q_pure rfl) rfl ?_
    refine wpl_bool2 24 22 rfl rfl (fun hb24 => ?_) (fun hb24 => ?_)
    ·
     have e3 : (a.fr = b.fr ∧ a.tt = b.tt) := by simpa using hb24
     refine wpl_on rfl rfl <| wpl_q (q_field Tryd.underlying32 rfl Tryd.ti22 rfl rfl _ rfl) rfl <| wpl_on rfl rfl <| wpl_q (q_ld Tryd.underlying22 rfl rfl (show a.c[4]? = some (a.sv) from rfl)) rfl <| wpl_on rfl rfl <| wpl_q (q_field Tryd.underlying32 rfl Tryd.ti22 rfl rfl _ rfl) rfl <| wpl_on rfl rfl <| wpl_q (q_ld Tryd.underlying22 rfl rfl (show b.c[4]? = some (b.sv) from rfl)) rfl <| wpl_on rfl rfl ?_
     refine wpl_t (t_pur Tryd.hb69 rfl fun w h => sameNumbers a.sv a.ss b.sv b.ss w (h.seen_old hla.s) (h.seen_old hlb.s)) rfl (fun b29 => ?_)
     refine wpl_q (q_pure rfl) rfl <| wpl_q (q_pure rfl) rfl ?_
     refine wpl_bool2 31 29 rfl rfl (fun hb31 => ?_) (fun hb31 => ?_)
     ·
      have e4 : a.ss = b.ss := by simpa using hb31
      refine wpl_on rfl rfl <| wpl_q (q_field Tryd.underlying32 rfl Tryd.ti30 rfl rfl _ rfl) rfl <| wpl_on rfl rfl <| wpl_q (q_ldP Tryd.underlying30 rfl Tryd.ti30 rfl a.sig rfl rfl) rfl <| wpl_on rfl rfl <| wpl_q (q_field Tryd.underlying32 rfl Tryd.ti30 rfl rfl _ rfl) rfl <| wpl_on rfl rfl <| wpl_q (q_ldP Tryd.underlying30 rfl Tryd.ti30 rfl b.sig rfl rfl) rfl <| wpl_on rfl rfl ?_
      refine wpl_t (t_pur Tryd.hb70 rfl fun w h => sameSig a.ix a.cv a.pv a.chs a.ps b.ix b.cv b.pv b.chs b.ps w (h.seen_old hla.c) hla.lc (h.seen_old hla.p) hla.lp (h.seen_old hlb.c) hlb.lc (h.seen_old hlb.p) hlb.lp) rfl (fun b36 => ?_)
      refine wpl_q (q_pure rfl) rfl <| wpl_q (q_pure rfl) rfl <| wpl_nil <| ex_then <| wpc_ret ?_
      refine ret1 (.inl rfl) rfl rfl ?_
      exact fun w h => ⟨congrArg (fun b => Ending.returned (Value.bool b)) zz18, h.below⟩
     ·
      have e4 : ¬ a.ss = b.ss := by simpa using hb31
      refine wpl_off rfl rfl rfl rfl <| wpl_off rfl rfl rfl rfl <| wpl_off rfl rfl rfl rfl <| wpl_off rfl rfl rfl rfl <| wpl_off rfl rfl rfl rfl <| wpl_q (q_pure rfl) rfl <| wpl_q (q_pure rfl) rfl <| wpl_nil <| ex_then <| wpc_ret ?_
      refine ret1 (.inl rfl) rfl rfl ?_
      exact fun w h => ⟨congrArg (fun b => Ending.returned (Value.bool b)) zz18, h.below⟩
    ·
     have e3 : ¬ (a.fr = b.fr ∧ a.tt = b.tt) := by simpa using hb24
     refine wpl_off rfl rfl rfl rfl <| wpl_off rfl rfl rfl rfl <| wpl_off rfl rfl rfl rfl <| wpl_off rfl rfl rfl rfl <| wpl_off rfl rfl rfl rfl <| wpl_q (q_pure rfl) rfl <| wpl_q (q_pure rfl) rfl <| wpl_off rfl rfl rfl rfl <| wpl_off rfl rfl rfl rfl <| wpl_off rfl rfl rfl rfl <| wpl_off rfl rfl rfl rfl <| wpl_off rfl rfl rfl rfl ?_
     refine wpl_q (q_pure rfl) rfl <| wpl_q (q_pure rfl) rfl <| wpl_nil <| ex_then <| wpc_ret ?_
     refine ret1 (.inl rfl) rfl rfl ?_
     exact fun w h => ⟨congrArg (fun b => Ending.returned (Value.bool b)) zz18, h.below⟩
   ·
    have e2 : ¬ a.no = b.no := by simpa using hb17
    refine wpl_off rfl rfl rfl rfl <| wpl_off rfl rfl rfl rfl <| wpl_off rfl rfl rfl rfl <| wpl_off rfl rfl rfl rfl <| wpl_off rfl rfl rfl rfl <| wpl_q (q_pure rfl) rfl <| wpl_q (q_pure rfl) rfl <| wpl_off rfl rfl rfl rfl <| wpl_off rfl rfl rfl rfl <| wpl_off rfl rfl rfl rfl <| wpl_off rfl rfl rfl rfl <| wpl_off rfl rfl rfl rfl ?_
    refine wpl_q (q_pure rfl) rfl <| wpl_q (q_pure rfl) rfl <| wpl_off rfl rfl rfl rfl <| wpl_off rfl rfl rfl rfl <| wpl_off rfl rfl rfl rfl <| wpl_off rfl rfl rfl rfl <| wpl_off rfl rfl rfl rfl <| wpl_q (q_pure rfl) rfl <| wpl_q (q_pure rfl) rfl <| wpl_nil <| ex_then <| wpc_ret ?_
    refine ret1 (.inl rfl) rfl rfl ?_
    exact fun w h => ⟨congrArg (fun b => Ending.returned (Value.bool b)) zz18, h.below⟩
  ·
   have e1 : ¬ a.nm = b.nm := by simpa using hb10
   refine wpl_off rfl rfl rfl rfl <| wpl_off rfl rfl rfl rfl <| wpl_off rfl rfl rfl rfl <| wpl_off rfl rfl rfl rfl <| wpl_off rfl rfl rfl rfl <| wpl_q (q_pure rfl) rfl <| wpl_q (q_pure rfl) rfl <| wpl_off rfl rfl rfl rfl <| wpl_off rfl rfl rfl rfl <| wpl_off rfl rfl rfl rfl <| wpl_off rfl rfl rfl rfl <| wpl_off rfl rfl rfl rfl ?_
   refine wpl_q (q_pure rfl) rfl <| wpl_q (q_pure rfl) rfl <| wpl_off rfl rfl rfl rfl <| wpl_off rfl rfl rfl rfl <| wpl_off rfl rfl rfl rfl <| wpl_off rfl rfl rfl rfl <| wpl_off rfl rfl rfl rfl <| wpl_q (q_pure rfl) rfl <| wpl_q (q_pure rfl) rfl <| wpl_off rfl rfl rfl rfl <| wpl_off rfl rfl rfl rfl <| wpl_off rfl rfl rfl rfl ?_
   refine wpl_off rfl rfl rfl rfl <| wpl_off rfl rfl rfl rfl <| wpl_q (q_pure rfl) rfl <| wpl_q (q_pure rfl) rfl <| wpl_nil <| ex_then <| wpc_ret ?_
   refine ret1 (.inl rfl) rfl rfl ?_
   exact fun w h => ⟨congrArg (fun b => Ending.returned (Value.bool b)) zz18, h.below⟩
theorem greatSig (ix : Int) (cv pv : Value) (chs ps : List (List UInt8)) (w : World) (hcv : SV cv chs.length) (hpv : SV pv ps.length)  :
    Calls Tryd.prog 19 [.agg #[.int .i64 ix, cv, pv]].toArray w (Pur w (.bool (decide (60 < chs.length) || decide (60 < ps.length)))) := by
  haveI : OneC [.int .i64 ix, cv, pv] := OneC.cons rfl (OneC.cons (SV.one hcv) (OneC.cons (SV.one hpv) oneC_nil))
  have lcv := hcv.le
  have lpv := hpv.le
  simp only [maxLen] at lcv lpv
  refine enter (m := 13) (R := Mem w [] [] []) Tryd.func19 rfl rfl (Nat.le_of_ble_eq_true rfl) (Mem.start w) ?_
  refine wpc_seq <| wpc_region ?_
  refine wpl_t (t_box rfl [.int .i64 ix, cv, pv] rfl) rfl (fun b1 => ?_)
  refine wpl_q (q_pure rfl) rfl <| wpl_nil <| ex_then <| wpc_seq <| wpc_region <| wpl_q (q_field Tryd.underlying30 rfl Tryd.ti28 rfl rfl _ rfl) rfl <| wpl_q (q_ld Tryd.underlying28 rfl rfl rfl) rfl ?_
  refine wpl_q (q_lenW Tryd.underlying28 rfl zz3) rfl ?_
  refine wpl_q (q_pure rfl) rfl <| wpl_q (q_pure rfl) rfl ?_
  refine wpl_bool2 7 6 rfl rfl (fun hb7 => ?_) (fun hb7 => ?_)
  ·
   try simp only [decide_eq_true_eq, decide_eq_false_iff_not, Bool.and_eq_true, Bool.or_eq_true, beq_iff_eq, bne_iff_ne, ne_eq, Bool.not_eq_true', Bool.not_eq_false', Decidable.not_not] at hb7
   refine wpl_off rfl rfl rfl rfl <| wpl_off rfl rfl rfl rfl <| wpl_off rfl rfl rfl rfl <| wpl_off rfl rfl rfl rfl <| wpl_q (q_pure rfl) rfl <| wpl_q (q_pure rfl) rfl <| wpl_nil <| ex_then <| wpc_ret ?_
   refine ret1 (.inl rfl) rfl rfl ?_
   exact fun w h => ⟨congrArg (fun b => Ending.returned (Value.bool b)) (by (try simp only [decide_eq_true_eq, decide_eq_false_iff_not, gt_iff_lt] at *); rw [Bool.eq_iff_iff]; simp only [Bool.or_eq_true, decide_eq_true_eq, true_iff]; omega), h.below⟩
  ·
   try simp only [decide_eq_true_eq, decide_eq_false_iff_not, Bool.and_eq_true, Bool.or_eq_true, beq_iff_eq, bne_iff_ne, ne_eq, Bool.not_eq_true', Bool.not_eq_false', Decidable.not_not] at hb7
   refine wpl_on rfl rfl <| wpl_q (q_field Tryd.underlying30 rfl Tryd.ti28 rfl rfl _ rfl) rfl <| wpl_on rfl rfl <| wpl_q (q_ld Tryd.underlying28 rfl rfl rfl) rfl <| wpl_on rfl rfl ?_
   refine wpl_q (q_lenW Tryd.underlying28 rfl zz3) rfl ?_
   refine wpl_on rfl rfl <| wpl_q (q_pure rfl) rfl <| wpl_q (q_pure rfl) rfl <| wpl_q (q_pure rfl) rfl <| wpl_nil <| ex_then <| wpc_ret ?_
   refine ret1 (.inl rfl) rfl rfl ?_
   exact fun w h => ⟨congrArg (fun b => Ending.returned (Value.bool b)) (by (try simp only [decide_eq_true_eq, decide_eq_false_iff_not, gt_iff_lt] at *); rw [Bool.eq_iff_iff]; simp only [Bool.or_eq_true, decide_eq_true_eq, true_iff]; omega), h.below⟩
theorem refRvGreat (l : Rv) (w : World) (hl : l.seen w.cell?) (hnl : l.nm.length ≤ maxLen)  :
    Calls Tryd.prog 18 [.agg l.c.toArray].toArray w (Pur w (.bool (bigR l))) := by
  haveI := hl.svs.one
  have lss := hl.s.sv.le
  have lcs := hl.c.sv.le
  have lps := hl.p.sv.le
  have sss := hl.s.sv
  have scs := hl.c.sv
  have sps := hl.p.sv
  simp only [maxLen] at lss lcs lps
  refine enter (m := 18) (R := Mem w [] [] []) Tryd.func18 rfl rfl (Nat.le_of_ble_eq_true rfl) (Mem.start w) ?_
  refine wpc_seq <| wpc_region ?_
  refine wpl_t (t_box rfl l.c rfl) rfl (fun b1 => ?_)
  refine wpl_q (q_pure rfl) rfl <| wpl_nil <| ex_then <| wpc_seq <| wpc_region <| wpl_q (q_field Tryd.underlying32 rfl Tryd.ti9 rfl rfl _ rfl) rfl <| wpl_q (q_ld Tryd.underlying9 rfl rfl (show l.c[0]? = some (str l.nm) from rfl)) rfl <| wpl_q (q_lenS Tryd.underlying9 rfl) rfl <| wpl_q (q_pure rfl) rfl <| wpl_q (q_pure rfl) rfl ?_
  refine wpl_bool2 7 6 rfl rfl (fun hb7 => ?_) (fun hb7 => ?_)
  ·
   have g1 : 500 < l.nm.length := by have := of_decide_eq_true hb7; omega
   refine wpl_off rfl rfl rfl rfl <| wpl_off rfl rfl rfl rfl <| wpl_off rfl rfl rfl rfl <| wpl_off rfl rfl rfl rfl <| wpl_q (q_pure rfl) rfl <| wpl_q (q_pure rfl) rfl <| wpl_off rfl rfl rfl rfl <| wpl_off rfl rfl rfl rfl <| wpl_off rfl rfl rfl rfl <| wpl_q (q_pure rfl) rfl <| wpl_q (q_pure rfl) rfl <| wpl_nil ?_
   refine ex_then <| wpc_ret ?_
   refine ret1 (.inl rfl) rfl rfl ?_
   exact fun w h => ⟨congrArg (fun b => Ending.returned (Value.bool b)) zz40, h.below⟩
  ·
   have g1 : ¬ 500 < l.nm.length := by have := of_decide_eq_false hb7; omega
   refine wpl_on rfl rfl <| wpl_q (q_field Tryd.underlying32 rfl Tryd.ti22 rfl rfl _ rfl) rfl <| wpl_on rfl rfl <| wpl_q (q_ld Tryd.underlying22 rfl rfl (show l.c[4]? = some (l.sv) from rfl)) rfl <| wpl_on rfl rfl ?_
   refine wpl_q (q_lenW Tryd.underlying22 rfl zz3) rfl ?_
   refine wpl_on rfl rfl <| wpl_q (q_pure rfl) rfl <| wpl_q (q_pure rfl) rfl <| wpl_q (q_pure rfl) rfl ?_
   refine wpl_bool2 13 11 rfl rfl (fun hb13 => ?_) (fun hb13 => ?_)
   ·
    have g2 : 520 < l.ss.length := by have := of_decide_eq_true hb13; omega
    refine wpl_off rfl rfl rfl rfl <| wpl_off rfl rfl rfl rfl <| wpl_off rfl rfl rfl rfl <| wpl_q (q_pure rfl) rfl <| wpl_q (q_pure rfl) rfl <| wpl_nil <| ex_then <| wpc_ret ?_
    refine ret1 (.inl rfl) rfl rfl ?_
    exact fun w h => ⟨congrArg (fun b => Ending.returned (Value.bool b)) zz40, h.below⟩
   ·
    have g2 : ¬ 520 < l.ss.length := by have := of_decide_eq_false hb13; omega
    refine wpl_on rfl rfl <| wpl_q (q_field Tryd.underlying32 rfl Tryd.ti30 rfl rfl _ rfl) rfl <| wpl_on rfl rfl <| wpl_q (q_ldP Tryd.underlying30 rfl Tryd.ti30 rfl l.sig rfl rfl) rfl <| wpl_on rfl rfl ?_
    refine wpl_t (t_pur Tryd.hb19 rfl fun w h => greatSig l.ix l.cv l.pv l.chs l.ps w scs sps) rfl (fun b16 => ?_)
    refine wpl_q (q_pure rfl) rfl <| wpl_q (q_pure rfl) rfl <| wpl_nil <| ex_then <| wpc_ret ?_
    refine ret1 (.inl rfl) rfl rfl ?_
    exact fun w h => ⟨congrArg (fun b => Ending.returned (Value.bool b)) zz40, h.below⟩
end Go.Proofs.YtgnablliekgbgaaDoor
namespace Go.Proofs.YtgnablliekgbgaaDoor
open Go Go.PL Go.RowKit
theorem cl_nil {a : Option Addr} {cap : Nat} {sz : Nat} {n : Nat} {cs : List Value} {r : Rd} (h : Seen r (.slice a n cap) n sz cs) (hn : a.isNone = true) : n = 0 := by
  obtain ⟨a', cap', e, h1, h2, h3⟩ := h.sv
  simp only [Value.slice.injEq] at e
  obtain ⟨rfl, _, rfl⟩ := e
  have := h3 (by simpa using hn)
  omega
theorem clone640 (a : Option Addr) (cap : Nat) (l : List UInt64) (w : World) (hav : Seen w.cell? (.slice a l.length cap) l.length 1 (v64s l)) (hl : l.length ≤ 1000) :
    Calls Tryd.prog 59 [.slice a l.length cap].toArray w (GivesP w (fun v => SV v l.length) (fun v => v) (fun v => [.row v l.length 23 1 (v64s l)]) (fun _ => [])) := by
  have sav := hav.sv
  refine enter (m := 8) (R := Mem w [] [] []) Tryd.func59 rfl rfl (Nat.le_of_ble_eq_true rfl) (Mem.start w) ?_
  refine wpc_seq <| wpc_region <| wpl_q (q_pure rfl) rfl <| wpl_nil <| ex_then <| wpc_seq <| wpc_seq <| wpc_region <| wpl_q (q_pure rfl) rfl ?_
  refine wpl_q (q_slNil Tryd.underlying22 rfl rfl zz7) rfl ?_
  refine wpl_nil <| ex_then ?_
  refine wpc_cond rfl (fun hc4 => ?_) (fun hc4 => ?_)
  ·
   have h0 := cl_nil hav hc4
   have hx0 := List.eq_nil_of_length_eq_zero h0
   subst hx0
   refine wpc_seq <| wpc_region <| wpl_q (q_pure rfl) rfl <| wpl_nil <| ex_then <| wpc_ret ?_
   refine ex_then_ret ?_
   refine ret1 (.inl rfl) rfl rfl ?_
   exact fun w h => ⟨.slice none 0 0, SV.nil, rfl, h.below, (h.nilRow 23 1).made zz8 .nil⟩
  ·
   refine wpc_skip <| ex_then <| wpc_seq <| wpc_region ?_
   refine wpl_tp (t_bs0W Tryd.underlying22 Tryd.ti23) rfl (fun b5 p5 => ?_)
   refine wpl_q (q_pure rfl) rfl ?_
   refine wpl_tp (t_ap0 Tryd.underlying22 Tryd.ti23 rfl zz20 rfl rfl (fun w h => h.seen_old hav) (v64s_one _) zz1 zz1) rfl (fun b7 p7 => ?_)
   refine wpl_q (q_pure rfl) rfl <| wpl_nil <| ex_then <| wpc_ret ?_
   refine ret1 (.inl rfl) rfl rfl ?_
   exact fun w h => ⟨b7, p7, rfl, h.below, h.made SubC.h .nil⟩
theorem cloneS0 (a : Option Addr) (cap : Nat) (l : List (List UInt8)) (w : World) (hav : Seen w.cell? (.slice a l.length cap) l.length 16 (v8s l.flatten)) (hll : ∀ x ∈ l, x.length = 16) (hl : l.length ≤ 1000) :
    Calls Tryd.prog 60 [.slice a l.length cap].toArray w (GivesP w (fun v => SV v l.length) (fun v => v) (fun v => [.row v l.length 41 16 (v8s l.flatten)]) (fun _ => [])) := by
  have sav := hav.sv
  refine enter (m := 8) (R := Mem w [] [] []) Tryd.func60 rfl rfl (Nat.le_of_ble_eq_true rfl) (Mem.start w) ?_
  refine wpc_seq <| wpc_region <| wpl_q (q_pure rfl) rfl <| wpl_nil <| ex_then <| wpc_seq <| wpc_seq <| wpc_region <| wpl_q (q_pure rfl) rfl ?_
  refine wpl_q (q_slNil Tryd.underlying28 rfl rfl zz7) rfl ?_
  refine wpl_nil <| ex_then ?_
  refine wpc_cond rfl (fun hc4 => ?_) (fun hc4 => ?_)
  ·
   have h0 := cl_nil hav hc4
   have hx0 := List.eq_nil_of_length_eq_zero h0
   subst hx0
   refine wpc_seq <| wpc_region <| wpl_q (q_pure rfl) rfl <| wpl_nil <| ex_then <| wpc_ret ?_
   refine ex_then_ret ?_
   refine ret1 (.inl rfl) rfl rfl ?_
   exact fun w h => ⟨.slice none 0 0, SV.nil, rfl, h.below, (h.nilRow 41 16).made zz8 .nil⟩
  ·
   refine wpc_skip <| ex_then <| wpc_seq <| wpc_region ?_
   refine wpl_tp (t_bs0W Tryd.underlying28 Tryd.ti41) rfl (fun b5 p5 => ?_)
   refine wpl_q (q_pure rfl) rfl ?_
   refine wpl_tp (t_ap0 Tryd.underlying28 Tryd.ti41 rfl zz20 rfl rfl (fun w h => h.seen_old hav) (v8s_one _) zz1 zz1) rfl (fun b7 p7 => ?_)
   refine wpl_q (q_pure rfl) rfl <| wpl_nil <| ex_then <| wpc_ret ?_
   refine ret1 (.inl rfl) rfl rfl ?_
   exact fun w h => ⟨b7, p7, rfl, h.below, h.made SubC.h .nil⟩
theorem clone64 (v : Value) (l : List UInt64) (w : World) (h : Seen w.cell? v l.length 1 (v64s l)) (hl : l.length ≤ 1000) : Calls Tryd.prog 59 [v].toArray w (GivesP w (fun v => SV v l.length) (fun v => v) (fun v => [.row v l.length 23 1 (v64s l)]) (fun _ => [])) := by
  obtain ⟨a, cap, rfl, _⟩ := h.sv
  exact clone640 a cap l w h hl
theorem cloneS (v : Value) (l : List (List UInt8)) (w : World) (h : Seen w.cell? v l.length 16 (v8s l.flatten)) (hll : ∀ x ∈ l, x.length = 16) (hl : l.length ≤ 1000) : Calls Tryd.prog 60 [v].toArray w (GivesP w (fun v => SV v l.length) (fun v => v) (fun v => [.row v l.length 41 16 (v8s l.flatten)]) (fun _ => [])) := by
  obtain ⟨a, cap, rfl, _⟩ := h.sv
  exact cloneS0 a cap l w h hll hl
def Rv.ws (l : Rv) (v : Value) : Rv := { l with sv := v }
def Rv.wc (l : Rv) (v : Value) : Rv := { l with cv := v }
def Rv.wp (l : Rv) (v : Value) : Rv := { l with pv := v }
abbrev V3 := Value × Value × Value
abbrev Rv.re (l : Rv) (x : V3) : Rv := ((l.ws x.1).wc x.2.1).wp x.2.2
theorem Rv.s_s (l : Rv) (v : Value) : l.c.set 4 v = (l.ws v).c := rfl
theorem Rv.s_c (l : Rv) (v : Value) : l.c.set 6 v = (l.wc v).c := rfl
theorem Rv.s_p (l : Rv) (v : Value) : l.c.set 7 v = (l.wp v).c := rfl
end Go.Proofs.YtgnablliekgbgaaDoor
namespace Go.Proofs.YtgnablliekgbgaaDoor
open Go Go.PL Go.RowKit
theorem rvTwin (l : Rv) (w : World) (hl : l.seen w.cell?) (hnl : l.nm.length ≤ maxLen) (h5 : l.ss.length ≤ 520) (h6 : l.chs.length ≤ 60) (h7 : l.ps.length ≤ 60) :
    Calls Tryd.prog 34 [.agg l.c.toArray].toArray w (GivesP w (fun x : V3 => SV x.1 l.ss.length ∧ SV x.2.1 l.chs.length ∧ SV x.2.2 l.ps.length) (fun x => .agg (l.re x).c.toArray) (fun x => [.row x.1 l.ss.length 23 1 (v64s l.ss), .row x.2.1 l.chs.length 41 16 (v8s l.chs.flatten), .row x.2.2 l.ps.length 41 16 (v8s l.ps.flatten)]) (fun _ => [])) := by
  haveI := hl.svs.one
  have lss := hl.s.sv.le
  have lcs := hl.c.sv.le
  have lps := hl.p.sv.le
  have sss := hl.s.sv
  have scs := hl.c.sv
  have sps := hl.p.sv
  simp only [maxLen] at lss lcs lps
  refine enter (m := 20) (R := Mem w [] [] []) Tryd.func34 rfl rfl (Nat.le_of_ble_eq_true rfl) (Mem.start w) ?_
  refine wpc_seq <| wpc_region ?_
  refine wpl_t (t_box rfl l.c rfl) rfl (fun b1 => ?_)
  refine wpl_t (t_alloc Tryd.ti32 Rv.z.c rfl) rfl (fun b2 => ?_)
  refine wpl_nil <| ex_then <| wpc_seq <| wpc_region <| wpl_q (q_field Tryd.underlying32 rfl Tryd.ti22 rfl rfl _ rfl) rfl <| wpl_q (q_ld Tryd.underlying22 rfl rfl (show l.c[4]? = some (l.sv) from rfl)) rfl ?_
  refine wpl_tp (t_callP1 Tryd.hb59 rfl fun w h => clone64 l.sv l.ss w (h.seen_old hl.s) zz14) rfl (fun b5 p5 => ?_)
  haveI : OneC (l.ws b5).c := Rv.svs.one (l := l.ws b5) ⟨p5, scs, sps⟩
  refine wpl_q (q_field Tryd.underlying32 rfl Tryd.ti22 rfl rfl _ rfl) rfl ?_
  refine wpl_t0 (t_st1 Tryd.ti22 rfl rfl (SV.one p5) (show 4 < 8 from zz20) _ (Rv.s_s _ _)) (fun _ => ?_)
  refine wpl_nil <| ex_then ?_
  refine wpc_cutc ({ x : Value × Value // (SV x.1 l.chs.length) ∧ (SV x.2 l.ps.length) }) [(1, .pointer (some ⟨b1, 0, none⟩)), (2, .pointer (some ⟨b2, 0, none⟩))] (fun x Lc => Lc) (fun x => Mem w [] [.row x.1.1 l.chs.length 41 16 (v8s l.chs.flatten), .row x.1.2 l.ps.length 41 16 (v8s l.ps.flatten), .row b5 l.ss.length 23 1 (v64s l.ss), .blk b2 32 Rv.z.c, .blk b1 32 (l.re (b5, x.1.1, x.1.2)).c] []) ?_ ?_
  ·
   refine wpc_draw 10 zz7 (fun _ h => h.drew) ?_
   refine wpd_p 0 rfl zz7 trivial (q_field Tryd.underlying32 rfl Tryd.ti30 rfl rfl _ rfl) rfl sk0 ?_
   refine wpd_p 1 rfl zz7 trivial (q_field Tryd.underlying30 rfl Tryd.ti28 rfl rfl _ rfl) rfl sk0 ?_
   refine wpd_q 2 rfl zz7 trivial (q_ld Tryd.underlying28 rfl rfl rfl) rfl (fun _ h => h) ?_
   refine wpd_p 4 rfl zz7 trivial (q_field Tryd.underlying32 rfl Tryd.ti30 rfl rfl _ rfl) rfl sk0 ?_
   refine wpd_p 5 rfl zz7 trivial (q_field Tryd.underlying30 rfl Tryd.ti28 rfl rfl _ rfl) rfl sk0 ?_
   refine wpd_q 6 rfl zz7 trivial (q_ld Tryd.underlying28 rfl rfl rfl) rfl (fun _ h => h) ?_
   refine wpd_tp 3 rfl zz7 trivial (t_callP1 Tryd.hb60 rfl fun w h => cloneS l.cv l.chs w (h.seen_old hl.c) hl.lc zz14) rfl (fun _ => (fun w h => .inr (h.sub SubC.h SubC.h))) (fun b10 p10 => ?_)
   refine wpd_p 8 rfl zz7 trivial (q_field Tryd.underlying32 rfl Tryd.ti30 rfl rfl _ rfl) rfl (fun w h => .inr (h.sub SubC.h SubC.h)) ?_
   refine wpd_p 9 rfl zz7 trivial (q_field Tryd.underlying30 rfl Tryd.ti28 rfl rfl _ rfl) rfl (fun w h => .inr (h.sub SubC.h SubC.h)) ?_
   refine wpd_tp 7 rfl zz7 trivial (t_callP1 Tryd.hb60 rfl fun w h => cloneS l.pv l.ps w (h.seen_old hl.p) hl.lp zz14) rfl (fun _ => (fun w h => .inr (h.sub SubC.h SubC.h))) (fun b14 p14 => ?_)
   refine wpd_t0 10 rfl zz7 trivial (t_st1 Tryd.ti28 rfl rfl (by first | exact SV.one p10 | exact SV.one p14) (by first | (show 6 < 8; decide) | (show 7 < 8; decide)) _ (by first | exact Rv.s_c _ _ | exact Rv.s_p _ _)) (fun _ => skk rfl) (fun _ => ?_)
   refine wpd_p 11 rfl zz7 trivial (q_field Tryd.underlying32 rfl Tryd.ti30 rfl rfl _ rfl) rfl (skk rfl) ?_
   refine wpd_p 12 rfl zz7 trivial (q_field Tryd.underlying30 rfl Tryd.ti28 rfl rfl _ rfl) rfl (skk rfl) ?_
   refine wpd_t0 13 rfl zz7 trivial (t_st1 Tryd.ti28 rfl rfl (by first | exact SV.one p10 | exact SV.one p14) (by first | (show 6 < 8; decide) | (show 7 < 8; decide)) _ (by first | exact Rv.s_c _ _ | exact Rv.s_p _ _)) (fun _ => skk rfl) (fun _ => ?_)
   refine wpd_done zz7 ?_
   refine ex_mid ⟨(b10, b14), ⟨p10, p14⟩⟩ ?_ ?_
   ·
    exact zz9
   ·
    exact fun w h => by first | exact h.sel | (rw [Rv.wpc] at h; exact h.sel)
  ·
   rintro ⟨⟨c1, c2⟩, ⟨hi0, hi1⟩⟩; try dsimp only
   have hi0 : SV c1 l.chs.length := hi0; have hi1 : SV c2 l.ps.length := hi1
   haveI : OneC (l.re (b5, c1, c2)).c := Rv.svs.one (l := l.re (b5, c1, c2)) ⟨p5, hi0, hi1⟩
   refine wpc_seq <| wpc_region <| wpl_q (q_ldN Tryd.underlying32 rfl Tryd.ti32 rfl LenC.h) rfl ?_
   refine wpl_t0 (t_stA Tryd.ti32 rfl rfl LenC.h OneC.h LenC.h) (fun _ => ?_)
   refine wpl_nil <| ex_then <| wpc_ret ?_
   refine retv1 (.inl rfl) rfl (rv_agg Tryd.underlying32 rfl Tryd.ti32 rfl (fun w h => h.atB) rfl) ?_
   exact fun w h => ⟨(b5, c1, c2), ⟨p5, hi0, hi1⟩, rfl, h.below, h.sel.made (Sub.refl _) .nil⟩
end Go.Proofs.YtgnablliekgbgaaDoor
namespace Go.Proofs.YtgnablliekgbgaaDoor
open Go Go.PL Go.RowKit
theorem revoked (l : Rv) (s : UInt64) (w : World) (hl : l.seen w.cell?) (hnl : l.nm.length ≤ maxLen)  :
    Calls Tryd.prog 9 [.agg l.c.toArray, .int .u64 s.toNat].toArray w (Pur w (.tuple #[.bool (revV l s), .int .i64 (chkR l)])) := by
  haveI := hl.svs.one
  have lss := hl.s.sv.le
  have lcs := hl.c.sv.le
  have lps := hl.p.sv.le
  have sss := hl.s.sv
  have scs := hl.c.sv
  have sps := hl.p.sv
  simp only [maxLen] at lss lcs lps
  refine enter (m := 22) (R := Mem w [] [] []) Tryd.func9 rfl rfl (Nat.le_of_ble_eq_true rfl) (Mem.start w) ?_
  refine wpc_seq <| wpc_region ?_
  refine wpl_t (t_box rfl l.c rfl) rfl (fun b2 => ?_)
  refine wpl_q (q_pure rfl) rfl <| wpl_q (q_pure rfl) rfl <| wpl_nil <| ex_then <| wpc_seq <| wpc_seq <| wpc_region <| wpl_q (q_ldN Tryd.underlying32 rfl Tryd.ti32 rfl LenC.h) rfl ?_
  refine wpl_t (t_pur Tryd.hb10 rfl fun w h => rvCheck l w (hl.old h rfl) hnl) rfl (fun b10 => ?_)
  refine wpl_q (q_pure rfl) rfl <| wpl_nil <| ex_then <| wpc_seq <| wpc_region <| wpl_q (q_pure rfl) rfl <| wpl_q (q_pure rfl) rfl <| wpl_nil <| ex_then ?_
  refine wpc_cond rfl (fun hc12 => ?_) (fun hc12 => ?_)
  ·
   have hk : chkR l ≠ 0 := by simpa using hc12
   refine wpc_seq <| wpc_region <| wpl_q (q_pure rfl) rfl <| wpl_q (q_pure rfl) rfl <| wpl_q (q_pure rfl) rfl <| wpl_nil <| ex_then <| wpc_ret ?_
   refine ex_then_ret ?_
   refine ret2 (.inl rfl) rfl rfl rfl ?_
   exact fun w h => ⟨by rw [show revV l s = false by unfold revV; rw [decide_eq_false hk]; rfl], h.below⟩
  ·
   have hk : chkR l = 0 := by simpa using hc12
   obtain ⟨h5, hin⟩ := chk_inv hk
   have hsort := fun j hj k hk => incF_lt hin j hj k hk
   refine wpc_skip <| ex_then <| wpc_seq <| wpc_region <| wpl_q (q_field Tryd.underlying32 rfl Tryd.ti22 rfl rfl _ rfl) rfl <| wpl_q (q_ld Tryd.underlying22 rfl rfl (show l.c[4]? = some (l.sv) from rfl)) rfl <| wpl_q (q_pure rfl) rfl ?_
   refine wpl_tp (t_callP Tryd.hb28 rfl fun w h => binary l.sv l.ss s w (h.seen_old hl.s) zz14 hsort) rfl (fun b18 p18 => ?_)
   refine wpl_q (q_pure rfl) rfl <| wpl_q (q_pure rfl) rfl <| wpl_q (q_pure rfl) rfl <| wpl_q (q_pure rfl) rfl <| wpl_q (q_pure rfl) rfl <| wpl_nil <| ex_then <| wpc_seq <| wpc_region <| wpl_q (q_pure rfl) rfl <| wpl_q (q_pure rfl) rfl <| wpl_q (q_pure rfl) rfl ?_
   refine wpl_nil <| ex_then <| wpc_ret ?_
   refine ret2 (.inl rfl) rfl rfl rfl ?_
   exact fun w h => ⟨by rw [show revV l s = decide (s ∈ l.ss) by unfold revV; rw [decide_eq_true hk, Bool.true_and], hk]; rfl, h.below⟩
end Go.Proofs.YtgnablliekgbgaaDoor
namespace Go.Proofs.YtgnablliekgbgaaDoor
open Go Go.PL Go.RowKit
theorem big_no {l : Rv} (h : bigR l = false) : l.nm.length ≤ 500 ∧ l.ss.length ≤ 520 ∧ l.chs.length ≤ 60 ∧ l.ps.length ≤ 60 := by
  unfold bigR at h
  simp only [Bool.or_eq_false_iff, decide_eq_false_iff_not] at h
  omega
end Go.Proofs.YtgnablliekgbgaaDoor
namespace Go.Proofs.YtgnablliekgbgaaDoor
open Go Go.PL Go.RowKit
inductive Tr where
  | nd (t : UInt8) (bs : List UInt8) (l : List Tr)
inductive HT where
  | nd (t : UInt8) (bv : Value) (bs : List UInt8) (lv : Value) (l : List HT)
mutual
def HT.tr : HT → Tr
  | .nd t _ bs _ l => .nd t bs (trs l)
def trs : List HT → List Tr
  | [] => []
  | x :: l => x.tr :: trs l
end
theorem HT.ind {P : HT → Prop} (h : ∀ t bv bs lv l, (∀ x ∈ l, P x) → P (.nd t bv bs lv l)) : ∀ t, P t
  | .nd t bv bs lv l => h t bv bs lv l (fun x _ => HT.ind h x)
termination_by t => SizeOf.sizeOf t
decreasing_by
  have := List.sizeOf_lt_of_mem ‹x ∈ l›
  simp only [HT.nd.sizeOf_spec]; omega
theorem Tr.ind {P : Tr → Prop} (h : ∀ t bs l, (∀ x ∈ l, P x) → P (.nd t bs l)) : ∀ t, P t
  | .nd t bs l => h t bs l (fun x _ => Tr.ind h x)
termination_by t => SizeOf.sizeOf t
decreasing_by
  have := List.sizeOf_lt_of_mem ‹x ∈ l›
  simp only [Tr.nd.sizeOf_spec]; omega
theorem trs_map : ∀ l : List HT, trs l = l.map HT.tr
  | [] => rfl
  | x :: l => by rw [trs, trs_map l]; rfl
theorem trs_length (l : List HT) : (trs l).length = l.length := by rw [trs_map, List.length_map]
theorem trs_append (a b : List HT) : trs (a ++ b) = trs a ++ trs b := by simp [trs_map]
abbrev nl : Value := .slice none 0 0
def HT.z : HT := .nd 0 nl [] nl []
def Tr.z : Tr := .nd 0 [] []
def HT.tg : HT → UInt8 | .nd t _ _ _ _ => t
def HT.bv : HT → Value | .nd _ v _ _ _ => v
def HT.bs : HT → List UInt8 | .nd _ _ bs _ _ => bs
def HT.lv : HT → Value | .nd _ _ _ v _ => v
def HT.kids : HT → List HT | .nd _ _ _ _ l => l
def HT.c : HT → List Value | .nd t bv _ lv _ => [.int .u8 (t.toNat : Int), bv, lv]
theorem HT.c_length (t : HT) : t.c.length = 3 := by cases t; rfl
instance lenC_ht {t : HT} : LenC t.c 3 := ⟨t.c_length⟩
abbrev hcs (l : List HT) : List Value := (l.map HT.c).flatten
theorem getD_memH {l : List HT} {i : Nat} (h : i < l.length) : l.getD i HT.z ∈ l := by
  rw [List.getD_eq_getElem?_getD, List.getElem?_eq_getElem h]; exact List.getElem_mem h
theorem take_succD {α : Type} (z : α) {l : List α} {i : Nat} (h : i < l.length) : l.take (i + 1) = l.take i ++ [l.getD i z] := by
  rw [List.take_add_one, List.getD_eq_getElem?_getD, List.getElem?_eq_getElem h]; rfl
theorem drop_consD {α : Type} (z : α) {l : List α} {i : Nat} (h : i < l.length) : l.drop i = l.getD i z :: l.drop (i + 1) := by
  rw [List.drop_eq_getElem_cons h, List.getD_eq_getElem?_getD, List.getElem?_eq_getElem h]; rfl
def HT.sv : HT → Prop | .nd _ bv bs lv l => SV bv bs.length ∧ SV lv l.length
theorem HT.sv.one {t : HT} (h : t.sv) : OneC t.c := by
  obtain ⟨tg, bv, bs, lv, l⟩ := t
  exact OneC.cons rfl (OneC.cons h.1.one (OneC.cons h.2.one oneC_nil))
instance oneC_hz : OneC HT.z.c := ⟨by intro u hu; simp only [HT.z, HT.c, List.mem_cons, List.not_mem_nil, or_false] at hu; rcases hu with rfl | rfl | rfl <;> rfl⟩
mutual
def HSeen (r : Rd) : HT → Prop
  | .nd _ bv bs lv l => Seen r bv bs.length 1 (v8s bs) ∧ Seen r lv l.length 3 (hcs l) ∧ HSeenL r l
def HSeenL (r : Rd) : List HT → Prop
  | [] => True
  | x :: l => HSeen r x ∧ HSeenL r l
end
theorem HSeenL_iff {r : Rd} : ∀ {l : List HT}, HSeenL r l ↔ ∀ x ∈ l, HSeen r x
  | [] => by simp [HSeenL]
  | x :: l => by simp [HSeenL, HSeenL_iff (l := l)]
theorem HSeen.mono {r r' : Rd} (hr : ∀ a v, r a = some v → r' a = some v) : ∀ {t : HT}, HSeen r t → HSeen r' t := by
  intro t
  induction t using HT.ind with
  | _ t bv bs lv l ih =>
    rintro ⟨h1, h2, h3⟩
    exact ⟨h1.mono hr, h2.mono hr, HSeenL_iff.2 fun x hx => ih x hx (HSeenL_iff.1 h3 x hx)⟩
theorem HSeen.sv {r : Rd} {t : HT} (h : HSeen r t) : t.sv := by
  obtain ⟨tg, bv, bs, lv, l⟩ := t
  exact ⟨h.1.sv, h.2.1.sv⟩
theorem HSeen.kid {r : Rd} {tg : UInt8} {bv lv : Value} {bs : List UInt8} {l : List HT} (h : HSeen r (.nd tg bv bs lv l)) {i : Nat} (hi : i < l.length) : HSeen r (l.getD i HT.z) := HSeenL_iff.1 h.2.2 _ (getD_memH hi)
def hseen (t : HT) : Fact := ⟨fun r => HSeen r t, fun _ _ hr h => h.mono hr⟩
theorem HSeen.old {w0 w : World} {M : List Ent} {S : List Fact} {t : HT} (hs : HSeen w0.cell? t) (h : Mem w0 [] M S w) : HSeen w.cell? t := hs.mono fun _ _ hc => h.cell_old hc
mutual
def HT.ents : HT → List Ent
  | .nd _ bv bs lv l => .row bv bs.length 5 1 (v8s bs) :: .row lv l.length 61 3 (hcs l) :: entsL l
def entsL : List HT → List Ent
  | [] => []
  | x :: l => x.ents ++ entsL l
end
theorem entsL_append (a b : List HT) : entsL (a ++ b) = entsL a ++ entsL b := by
  induction a with
  | nil => rfl
  | cons x a ih => simp [entsL, ih]
theorem mem_entsL {l : List HT} {x : HT} (hx : x ∈ l) {e : Ent} (he : e ∈ x.ents) : e ∈ entsL l := by
  induction l with
  | nil => cases hx
  | cons y l ih =>
    rw [entsL, List.mem_append]
    rcases List.mem_cons.1 hx with rfl | hx
    · exact .inl he
    · exact .inr (ih hx)
theorem Mem.hseenM {w0 w : World} {Ln : List Nat} {M : List Ent} {S : List Fact} (h : Mem w0 Ln M S w) : ∀ {t : HT}, (∀ e ∈ t.ents, e ∈ M) → HSeen w.cell? t := by
  intro t
  induction t using HT.ind with
  | _ t bv bs lv l ih =>
    intro hm
    refine ⟨h.seen_row (hm _ (List.mem_cons_self ..)), h.seen_row (hm _ (List.mem_cons_of_mem _ (List.mem_cons_self ..))), HSeenL_iff.2 fun x hx => ih x hx fun e he => hm _ ?_⟩
    exact List.mem_cons_of_mem _ (List.mem_cons_of_mem _ (mem_entsL hx he))
class HasT (M : List Ent) (t : HT) : Prop where
  h : ∀ e ∈ t.ents, e ∈ M
instance (priority := 1200) hasT_here {t : HT} {X : List Ent} : HasT (t.ents ++ X) t := ⟨fun e he => List.mem_append_left _ he⟩
instance (priority := 1100) hasT_all {t : HT} : HasT t.ents t := ⟨fun _ he => he⟩
instance (priority := 800) hasT_app {t : HT} {Y X : List Ent} [h : HasT X t] : HasT (Y ++ X) t := ⟨fun e he => List.mem_append_right _ (h.h e he)⟩
instance (priority := 700) hasT_left {t : HT} {Y X : List Ent} [h : HasT Y t] : HasT (Y ++ X) t := ⟨fun e he => List.mem_append_left _ (h.h e he)⟩
instance (priority := 900) hasT_cons {t : HT} {e : Ent} {X : List Ent} [h : HasT X t] : HasT (e :: X) t := ⟨fun _ hk => List.mem_cons_of_mem _ (h.h _ hk)⟩
theorem Mem.hseen {w0 w : World} {Ln : List Nat} {M : List Ent} {S : List Fact} (h : Mem w0 Ln M S w) {t : HT} [ht : HasT M t] : HSeen w.cell? t := Mem.hseenM h ht.h
theorem Mem.hseenF {w0 w : World} {Ln : List Nat} {M : List Ent} {S : List Fact} (h : Mem w0 Ln M S w) {t : HT} (ht : Go.Proofs.YtgnablliekgbgaaDoor.hseen t ∈ S) : HSeen w.cell? t := h.fact ht
def rowFact : Ent → Fact
  | .row v m _ sz xs => Go.PL.seen v m sz xs
  | _ => ⟨fun _ => True, fun _ _ _ _ => trivial⟩
def isRow : Ent → Prop
  | .row _ _ _ _ _ => True
  | _ => False
theorem ents_rows : ∀ (t : HT), ∀ e ∈ t.ents, isRow e := by
  intro t
  induction t using HT.ind with
  | _ t bv bs lv l ih =>
    intro e he
    rcases List.mem_cons.1 he with rfl | he
    · trivial
    · rcases List.mem_cons.1 he with rfl | he
      · trivial
      · have : ∀ m : List HT, (∀ x ∈ m, x ∈ l) → e ∈ entsL m → isRow e := by
          intro m
          induction m with
          | nil => intro _ h; cases h
          | cons y m ih2 =>
            intro hm h
            rw [entsL, List.mem_append] at h
            rcases h with h | h
            · exact ih y (hm y (List.mem_cons_self ..)) e h
            · exact ih2 (fun x hx => hm x (List.mem_cons_of_mem _ hx)) h
        exact this l (fun _ hx => hx) he
theorem Mem.freezeRows {w0 w : World} : ∀ (X : List Ent) {M : List Ent} {S : List Fact}, (∀ e ∈ X, isRow e) → Mem w0 [] (X ++ M) S w → Mem w0 [] M (X.map rowFact ++ S) w
  | [], M, S, _, h => h
  | e :: X, M, S, hr, h => by
    cases e with
    | row v m e sz xs =>
      have h1 := h.freezeRow (M' := X ++ M) .here
      have h2 := Mem.freezeRows X (fun e he => hr e (List.mem_cons_of_mem _ he)) h1
      refine h2.imp fun r hs t ht => hs t ?_
      rw [List.map_cons, List.cons_append] at ht
      rcases List.mem_cons.1 ht with rfl | ht
      · exact List.mem_append_right _ (List.mem_cons_self ..)
      · rcases List.mem_append.1 ht with ht | ht
        · exact List.mem_append_left _ ht
        · exact List.mem_append_right _ (List.mem_cons_of_mem _ ht)
    | blk b t cs => exact (hr _ (List.mem_cons_self ..)).elim
    | obj b o => exact (hr _ (List.mem_cons_self ..)).elim
theorem hseen_rows {r : Rd} : ∀ (t : HT), (∀ e ∈ t.ents, (rowFact e).f r) → HSeen r t := by
  intro t
  induction t using HT.ind with
  | _ t bv bs lv l ih =>
    intro h
    refine ⟨h _ (List.mem_cons_self ..), h _ (List.mem_cons_of_mem _ (List.mem_cons_self ..)), HSeenL_iff.2 fun x hx => ih x hx fun e he => h _ ?_⟩
    exact List.mem_cons_of_mem _ (List.mem_cons_of_mem _ (mem_entsL hx he))
theorem Mem.freezeT {w0 w : World} {M : List Ent} {S : List Fact} {t : HT} (h : Mem w0 [] (t.ents ++ M) S w) : Mem w0 [] M (Go.Proofs.YtgnablliekgbgaaDoor.hseen t :: S) w := by
  refine (Mem.freezeRows t.ents (ents_rows t) h).imp fun r hs f hf => ?_
  rcases List.mem_cons.1 hf with rfl | hf
  · exact hseen_rows t fun e he => hs _ (List.mem_append_left _ (List.mem_map_of_mem he))
  · exact hs _ (List.mem_append_right _ hf)
theorem new_freeze {B : World} {w : World} {t : HT} (h : Mem B [] t.ents [] w) : New B.heap.size [] [Go.Proofs.YtgnablliekgbgaaDoor.hseen t] w := (Mem.freezeT (t := t) (M := []) (by rw [List.append_nil]; exact h)).made .nil (Sub.refl _)
theorem Sub.appR {α : Type} {l M : List α} : ∀ (X : List α), Sub l M → Sub l (X ++ M)
  | [], h => h
  | _ :: X, h => .drop (Sub.appR X h)
instance (priority := 1600) subC_refl {α : Type} {l : List α} : SubC l l := ⟨Sub.refl l⟩
instance (priority := 500) subC_appR {α : Type} {l M X : List α} [s : SubC l M] : SubC l (X ++ M) := ⟨Sub.appR X s.h⟩
section
variable {P : Program} {n : Cx} {L : Slots} {Q : Exit → Act → World → Prop} {w0 : World} {Ln : List Nat} {M : List Ent} {S : List Fact}
theorem t_callE {k : FuncId} {args : Array Operand} {at_ : Array TypeId} {vs : List Value} {ι : Type} {p : ι → Prop} {V : ι → Value} {N : ι → List Ent} (Z : ι → List Ent) (hZ : ∀ x, (N x ++ M).Perm (Z x)) (hb : HasBody P k) (hv : evs L args.toList = some vs)
    (hc : ∀ w, Mem w0 Ln M S w → Calls P k vs.toArray w (GivesP w p V N (fun _ => []))) : TOpP P Q n (Mem w0 Ln M S) L (.call { callee := .value (.func k), args := args, argTypes := at_ }) ι p V (fun x => Mem w0 Ln (Z x) S) :=
  (t_callP hb hv hc).t.rep fun x w h => ⟨x.1, x.2, rfl, h.perm (hZ x.1)⟩
theorem t_callPT {k : FuncId} {args : Array Operand} {at_ : Array TypeId} {vs : List Value} {ι : Type} {p : ι → Prop} {V : ι → Value} {T : ι → Fact} (hb : HasBody P k) (hv : evs L args.toList = some vs)
    (hc : ∀ w, Mem w0 Ln M S w → Calls P k vs.toArray w (GivesP w p V (fun _ => []) (fun x => [T x]))) : TOpP P Q n (Mem w0 Ln M S) L (.call { callee := .value (.func k), args := args, argTypes := at_ }) ι p V (fun x => Mem w0 Ln M (T x :: S)) := t_callP hb hv hc
end
end Go.Proofs.YtgnablliekgbgaaDoor
namespace Go.Proofs.YtgnablliekgbgaaDoor
open Go Go.PL Go.RowKit
def lenF (n : Nat) : Nat := if n = 0 then 0 else n.log2 + 1
theorem lenF_step {n : Nat} (h : n ≠ 0) : lenF n = lenF (n / 2) + 1 := by
  unfold lenF
  rw [if_neg h, Nat.log2_def]
  by_cases h2 : 2 ≤ n
  · rw [if_pos h2, if_neg zz14]
  · rw [if_neg h2, if_pos zz14]
theorem lenF_shift : ∀ (s n : Nat), 2 ^ s ≤ n → lenF n = s + lenF (n / 2 ^ s)
  | 0, n, _ => by simp
  | s + 1, n, h => by
    have h1 : 2 ^ s ≤ n / 2 := by rw [Nat.pow_succ] at h; omega
    have := Nat.two_pow_pos s
    rw [lenF_step zz14, lenF_shift s (n / 2) h1, Nat.div_div_eq_div_mul, Nat.pow_succ, Nat.mul_comm 2]; omega
theorem lenF_le : ∀ {m n : Nat}, n < 2 ^ m → lenF n ≤ m
  | 0, n, h => by
    obtain rfl : n = 0 := by simpa using h
    exact Nat.le_refl _
  | m + 1, n, h => by
    by_cases h0 : n = 0
    · subst h0; exact Nat.zero_le _
    · rw [lenF_step h0]
      have := lenF_le (m := m) (n := n / 2) (by rw [Nat.pow_succ] at h; omega)
      omega
theorem lenF_lt : ∀ {m n : Nat}, lenF n ≤ m → n < 2 ^ m
  | 0, n, h => by
    by_cases h0 : n = 0
    · subst h0; decide
    · rw [lenF_step h0] at h; omega
  | m + 1, n, h => by
    by_cases h0 : n = 0
    · subst h0; exact Nat.two_pow_pos _
    · rw [lenF_step h0] at h
      have := lenF_lt (m := m) (n := n / 2) zz14
      rw [Nat.pow_succ]; omega
def tab8 : List UInt8 := (List.range 256).map fun i => UInt8.ofNat (lenF i)
theorem tab8_length : tab8.length = 256 := by rw [tab8, List.length_map, List.length_range]
theorem tab8_get {b : Nat} (h : b < 256) : (tab8.getD b 0).toNat = lenF b := by
  rw [tab8, List.getD_eq_getElem?_getD, List.getElem?_map, List.getElem?_range h]
  show (UInt8.ofNat (lenF b)).toNat = _
  rw [UInt8.toNat_ofNat']
  exact Nat.mod_eq_of_lt (by have := lenF_le (m := 8) (n := b) h; omega)
theorem sr64_nat (x : UInt64) (k : Nat) (hk : k ≤ 64) : (sr64 x k).toNat = x.toNat / 2 ^ k := by
  show (UInt64.ofNat (x.toNat / 2 ^ min k 64)).toNat = _
  rw [Nat.min_eq_left hk, UInt64.toNat_ofNat']
  exact Nat.mod_eq_of_lt (Nat.lt_of_le_of_lt (Nat.div_le_self _ _) x.toNat_lt)
theorem len_fin {x y : UInt64} (s : Nat) (hy : y.toNat = x.toNat / 2 ^ s) (h1 : y.toNat < 256) (h2 : s = 0 ∨ 2 ^ s ≤ x.toNat) : s + (tab8.getD (of8 (y.toNat : Int)).toNat 0).toNat = lenF x.toNat := by
  have e : (of8 (y.toNat : Int)).toNat = y.toNat := by have := of8_toNat (y.toNat : Int); omega
  rw [e, tab8_get h1, hy]
  rcases h2 with rfl | h2
  · simp
  · exact (lenF_shift s _ h2).symm
def wideF (n : Nat) : Nat := if n < 128 then 1 else 1 + (lenF n + 7) / 8
theorem wideF_eq {n : Nat} (h : n < 16777216) : wideF n = if n < 128 then 1 else if n < 256 then 2 else if n < 65536 then 3 else 4 := by
  unfold wideF
  split
  · rfl
  · split
    · have h1 := lenF_le (m := 8) (n := n) zz14
      have h2 : ¬ lenF n ≤ 0 := fun hh => by have := lenF_lt hh; omega
      omega
    · split
      · have h1 := lenF_le (m := 16) (n := n) zz14
        have h2 : ¬ lenF n ≤ 8 := fun hh => by have := lenF_lt hh; omega
        omega
      · have h1 := lenF_le (m := 24) (n := n) zz14
        have h2 : ¬ lenF n ≤ 16 := fun hh => by have := lenF_lt hh; omega
        omega
theorem wideF_le (n : Nat) (h : n < 16777216) : wideF n ≤ 4 := by
  rw [wideF_eq h]; split
  · decide
  · split
    · decide
    · split <;> decide
def lenB (n : Nat) : List UInt8 := if n < 128 then [of8 (n : Int)] else if n < 256 then [129, of8 (n : Int)] else if n < 65536 then [130, of8 ((n / 256 : Nat) : Int), of8 ((n % 256 : Nat) : Int)] else [131, of8 ((n / 65536 : Nat) : Int), of8 ((n / 256 % 256 : Nat) : Int), of8 ((n % 256 : Nat) : Int)]
theorem lenB_length {n : Nat} (h : n < 16777216) : (lenB n).length = wideF n := by
  rw [wideF_eq h]; unfold lenB
  split
  · rfl
  · split
    · rfl
    · split <;> rfl
theorem len64 (x : UInt64) (w : World)   :
    Calls Tryd.prog 46 [.int .u64 x.toNat].toArray w (Pur w (.int .i64 ((lenF x.toNat : Nat) : Int))) := by
  have hx := x.toNat_lt
  refine enter (m := 25) (R := Mem w [] [] []) Tryd.func46 rfl rfl (Nat.le_of_ble_eq_true rfl) (Mem.start w) ?_
  refine wpc_seq <| wpc_region <| wpl_q (q_pure rfl) rfl <| wpl_nil <| ex_then <| wpc_seq <| wpc_seq <| wpc_region <| wpl_q (q_pure rfl) rfl <| wpl_q (q_pure rfl) rfl <| wpl_nil <| ex_then ?_
  refine wpc_cond rfl (fun hc4 => ?_) (fun hc4 => ?_)
  ·
   try simp only [decide_eq_true_eq, decide_eq_false_iff_not, ge_iff_le] at hc4
   refine wpc_seq <| wpc_region <| wpl_q (q_pure rfl) rfl ?_
   refine wpl_q (q64_shr rfl rfl zz23 32 rfl) rfl ?_
   refine wpl_q (q_pure rfl) rfl <| wpl_nil <| ex_then <| wpc_region <| wpl_q (q_pure rfl) rfl <| wpl_nil <| ex_then <| wpc_seq <| wpc_seq <| wpc_region <| wpl_q (q_pure rfl) rfl <| wpl_q (q_pure rfl) rfl ?_
   refine wpl_nil <| ex_then ?_
   refine wpc_cond rfl (fun hc8 => ?_) (fun hc8 => ?_)
   ·
    try simp only [decide_eq_true_eq, decide_eq_false_iff_not, ge_iff_le] at hc8
    refine wpc_seq <| wpc_region <| wpl_q (q_pure rfl) rfl ?_
    refine wpl_q (q64_shr rfl rfl zz23 16 rfl) rfl ?_
    refine wpl_q (q_pure rfl) rfl <| wpl_nil <| ex_then <| wpc_region <| wpl_q (q_pure rfl) rfl ?_
    refine wpl_q (q_addN (b := 16) rfl rfl zz1) rfl ?_
    refine wpl_q (q_pure rfl) rfl <| wpl_nil <| ex_then <| wpc_seq <| wpc_seq <| wpc_region <| wpl_q (q_pure rfl) rfl <| wpl_q (q_pure rfl) rfl <| wpl_nil <| ex_then ?_
    refine wpc_cond rfl (fun hc14 => ?_) (fun hc14 => ?_)
    ·
     try simp only [decide_eq_true_eq, decide_eq_false_iff_not, ge_iff_le] at hc14
     refine wpc_seq <| wpc_region <| wpl_q (q_pure rfl) rfl ?_
     refine wpl_q (q64_shr rfl rfl zz23 8 rfl) rfl ?_
     refine wpl_q (q_pure rfl) rfl <| wpl_nil <| ex_then <| wpc_region <| wpl_q (q_pure rfl) rfl ?_
     refine wpl_q (q_addN (b := 8) rfl rfl zz1) rfl ?_
     refine wpl_q (q_pure rfl) rfl <| wpl_nil <| ex_then <| wpc_seq <| wpc_region <| wpl_q (q_pure rfl) rfl <| wpl_q (q_pure rfl) rfl <| wpl_q (q8_conv Tryd.underlying23 Tryd.underlying5 rfl) rfl ?_
     refine wpl_q (q_strIdx (xs := tab8) Tryd.underlying9 zz7 rfl zz42) rfl ?_
     refine wpl_q (q8_int Tryd.underlying5 Tryd.underlying3 rfl) rfl ?_
     refine wpl_q (q_addN rfl rfl (Nat.le_trans (Nat.add_le_add_left (Nat.le_of_lt (UInt8.toNat_lt _)) _) zz20)) rfl ?_
     refine wpl_q (q_pure rfl) rfl <| wpl_nil <| ex_then <| wpc_ret ?_
     refine ret1 (.inl rfl) rfl rfl ?_
     exact fun w h => ⟨by
       have e0 := sr64_nat x 32 zz20
       have e1 := sr64_nat (sr64 x 32) 16 zz20
       have e2 := sr64_nat (sr64 (sr64 x 32) 16) 8 zz20
       have := len_fin (x := x) (y := (sr64 (sr64 (sr64 x 32) 16) 8)) 56 (by rw [e2, e1, e0]; first | done | omega) zz14 zz14
       rw [← this], h.below⟩
    ·
     try simp only [decide_eq_true_eq, decide_eq_false_iff_not, ge_iff_le] at hc14
     refine wpc_skip <| ex_then <| wpc_seq <| wpc_region <| wpl_q (q_pure rfl) rfl <| wpl_q (q_pure rfl) rfl <| wpl_q (q8_conv Tryd.underlying23 Tryd.underlying5 rfl) rfl ?_
     refine wpl_q (q_strIdx (xs := tab8) Tryd.underlying9 zz7 rfl zz42) rfl ?_
     refine wpl_q (q8_int Tryd.underlying5 Tryd.underlying3 rfl) rfl ?_
     refine wpl_q (q_addN rfl rfl (Nat.le_trans (Nat.add_le_add_left (Nat.le_of_lt (UInt8.toNat_lt _)) _) zz20)) rfl ?_
     refine wpl_q (q_pure rfl) rfl <| wpl_nil <| ex_then <| wpc_ret ?_
     refine ret1 (.inl rfl) rfl rfl ?_
     exact fun w h => ⟨by
       have e0 := sr64_nat x 32 zz20
       have e1 := sr64_nat (sr64 x 32) 16 zz20
       have := len_fin (x := x) (y := (sr64 (sr64 x 32) 16)) 48 (by rw [e1, e0]; first | done | omega) zz14 zz14
       rw [← this], h.below⟩
   ·
    try simp only [decide_eq_true_eq, decide_eq_false_iff_not, ge_iff_le] at hc8
    refine wpc_skip <| ex_then <| wpc_seq <| wpc_seq <| wpc_region <| wpl_q (q_pure rfl) rfl <| wpl_q (q_pure rfl) rfl <| wpl_nil <| ex_then ?_
    refine wpc_cond rfl (fun hc14 => ?_) (fun hc14 => ?_)
    ·
     try simp only [decide_eq_true_eq, decide_eq_false_iff_not, ge_iff_le] at hc14
     refine wpc_seq <| wpc_region <| wpl_q (q_pure rfl) rfl ?_
     refine wpl_q (q64_shr rfl rfl zz23 8 rfl) rfl ?_
     refine wpl_q (q_pure rfl) rfl <| wpl_nil <| ex_then <| wpc_region <| wpl_q (q_pure rfl) rfl ?_
     refine wpl_q (q_addN (b := 8) rfl rfl zz1) rfl ?_
     refine wpl_q (q_pure rfl) rfl <| wpl_nil <| ex_then <| wpc_seq <| wpc_region <| wpl_q (q_pure rfl) rfl <| wpl_q (q_pure rfl) rfl <| wpl_q (q8_conv Tryd.underlying23 Tryd.underlying5 rfl) rfl ?_
     refine wpl_q (q_strIdx (xs := tab8) Tryd.underlying9 zz7 rfl zz42) rfl ?_
     refine wpl_q (q8_int Tryd.underlying5 Tryd.underlying3 rfl) rfl ?_
     refine wpl_q (q_addN rfl rfl (Nat.le_trans (Nat.add_le_add_left (Nat.le_of_lt (UInt8.toNat_lt _)) _) zz20)) rfl ?_
     refine wpl_q (q_pure rfl) rfl <| wpl_nil <| ex_then <| wpc_ret ?_
     refine ret1 (.inl rfl) rfl rfl ?_
     exact fun w h => ⟨by
       have e0 := sr64_nat x 32 zz20
       have e1 := sr64_nat (sr64 x 32) 8 zz20
       have := len_fin (x := x) (y := (sr64 (sr64 x 32) 8)) 40 (by rw [e1, e0]; first | done | omega) zz14 zz14
       rw [← this], h.below⟩
    ·
     try simp only [decide_eq_true_eq, decide_eq_false_iff_not, ge_iff_le] at hc14
     refine wpc_skip <| ex_then <| wpc_seq <| wpc_region <| wpl_q (q_pure rfl) rfl <| wpl_q (q_pure rfl) rfl <| wpl_q (q8_conv Tryd.underlying23 Tryd.underlying5 rfl) rfl ?_
     refine wpl_q (q_strIdx (xs := tab8) Tryd.underlying9 zz7 rfl zz42) rfl ?_
     refine wpl_q (q8_int Tryd.underlying5 Tryd.underlying3 rfl) rfl ?_
     refine wpl_q (q_addN rfl rfl (Nat.le_trans (Nat.add_le_add_left (Nat.le_of_lt (UInt8.toNat_lt _)) _) zz20)) rfl ?_
     refine wpl_q (q_pure rfl) rfl <| wpl_nil <| ex_then <| wpc_ret ?_
     refine ret1 (.inl rfl) rfl rfl ?_
     exact fun w h => ⟨by
       have e0 := sr64_nat x 32 zz20
       have := len_fin (x := x) (y := (sr64 x 32)) 32 (by rw [e0]; first | done | omega) zz14 zz14
       rw [← this], h.below⟩
  ·
   try simp only [decide_eq_true_eq, decide_eq_false_iff_not, ge_iff_le] at hc4
   refine wpc_skip <| ex_then <| wpc_seq <| wpc_seq <| wpc_region <| wpl_q (q_pure rfl) rfl <| wpl_q (q_pure rfl) rfl <| wpl_nil <| ex_then ?_
   refine wpc_cond rfl (fun hc8 => ?_) (fun hc8 => ?_)
   ·
    try simp only [decide_eq_true_eq, decide_eq_false_iff_not, ge_iff_le] at hc8
    refine wpc_seq <| wpc_region <| wpl_q (q_pure rfl) rfl ?_
    refine wpl_q (q64_shr rfl rfl zz23 16 rfl) rfl ?_
    refine wpl_q (q_pure rfl) rfl <| wpl_nil <| ex_then <| wpc_region <| wpl_q (q_pure rfl) rfl ?_
    refine wpl_q (q_addN (b := 16) rfl rfl zz1) rfl ?_
    refine wpl_q (q_pure rfl) rfl <| wpl_nil <| ex_then <| wpc_seq <| wpc_seq <| wpc_region <| wpl_q (q_pure rfl) rfl <| wpl_q (q_pure rfl) rfl <| wpl_nil <| ex_then ?_
    refine wpc_cond rfl (fun hc14 => ?_) (fun hc14 => ?_)
    ·
     try simp only [decide_eq_true_eq, decide_eq_false_iff_not, ge_iff_le] at hc14
     refine wpc_seq <| wpc_region <| wpl_q (q_pure rfl) rfl ?_
     refine wpl_q (q64_shr rfl rfl zz23 8 rfl) rfl ?_
     refine wpl_q (q_pure rfl) rfl <| wpl_nil <| ex_then <| wpc_region <| wpl_q (q_pure rfl) rfl ?_
     refine wpl_q (q_addN (b := 8) rfl rfl zz1) rfl ?_
     refine wpl_q (q_pure rfl) rfl <| wpl_nil <| ex_then <| wpc_seq <| wpc_region <| wpl_q (q_pure rfl) rfl <| wpl_q (q_pure rfl) rfl <| wpl_q (q8_conv Tryd.underlying23 Tryd.underlying5 rfl) rfl ?_
     refine wpl_q (q_strIdx (xs := tab8) Tryd.underlying9 zz7 rfl zz42) rfl ?_
     refine wpl_q (q8_int Tryd.underlying5 Tryd.underlying3 rfl) rfl ?_
     refine wpl_q (q_addN rfl rfl (Nat.le_trans (Nat.add_le_add_left (Nat.le_of_lt (UInt8.toNat_lt _)) _) zz20)) rfl ?_
     refine wpl_q (q_pure rfl) rfl <| wpl_nil <| ex_then <| wpc_ret ?_
     refine ret1 (.inl rfl) rfl rfl ?_
     exact fun w h => ⟨by
       have e0 := sr64_nat x 16 zz20
       have e1 := sr64_nat (sr64 x 16) 8 zz20
       have := len_fin (x := x) (y := (sr64 (sr64 x 16) 8)) 24 (by rw [e1, e0]; first | done | omega) zz14 zz14
       rw [← this], h.below⟩
    ·
     try simp only [decide_eq_true_eq, decide_eq_false_iff_not, ge_iff_le] at hc14
     refine wpc_skip <| ex_then <| wpc_seq <| wpc_region <| wpl_q (q_pure rfl) rfl <| wpl_q (q_pure rfl) rfl <| wpl_q (q8_conv Tryd.underlying23 Tryd.underlying5 rfl) rfl ?_
     refine wpl_q (q_strIdx (xs := tab8) Tryd.underlying9 zz7 rfl zz42) rfl ?_
     refine wpl_q (q8_int Tryd.underlying5 Tryd.underlying3 rfl) rfl ?_
     refine wpl_q (q_addN rfl rfl (Nat.le_trans (Nat.add_le_add_left (Nat.le_of_lt (UInt8.toNat_lt _)) _) zz20)) rfl ?_
     refine wpl_q (q_pure rfl) rfl <| wpl_nil <| ex_then <| wpc_ret ?_
     refine ret1 (.inl rfl) rfl rfl ?_
     exact fun w h => ⟨by
       have e0 := sr64_nat x 16 zz20
       have := len_fin (x := x) (y := (sr64 x 16)) 16 (by rw [e0]; first | done | omega) zz14 zz14
       rw [← this], h.below⟩
   ·
    try simp only [decide_eq_true_eq, decide_eq_false_iff_not, ge_iff_le] at hc8
    refine wpc_skip <| ex_then <| wpc_seq <| wpc_seq <| wpc_region <| wpl_q (q_pure rfl) rfl <| wpl_q (q_pure rfl) rfl <| wpl_nil <| ex_then ?_
    refine wpc_cond rfl (fun hc14 => ?_) (fun hc14 => ?_)
    ·
     try simp only [decide_eq_true_eq, decide_eq_false_iff_not, ge_iff_le] at hc14
     refine wpc_seq <| wpc_region <| wpl_q (q_pure rfl) rfl ?_
     refine wpl_q (q64_shr rfl rfl zz23 8 rfl) rfl ?_
     refine wpl_q (q_pure rfl) rfl <| wpl_nil <| ex_then <| wpc_region <| wpl_q (q_pure rfl) rfl ?_
     refine wpl_q (q_addN (b := 8) rfl rfl zz1) rfl ?_
     refine wpl_q (q_pure rfl) rfl <| wpl_nil <| ex_then <| wpc_seq <| wpc_region <| wpl_q (q_pure rfl) rfl <| wpl_q (q_pure rfl) rfl <| wpl_q (q8_conv Tryd.underlying23 Tryd.underlying5 rfl) rfl ?_
     refine wpl_q (q_strIdx (xs := tab8) Tryd.underlying9 zz7 rfl zz42) rfl ?_
     refine wpl_q (q8_int Tryd.underlying5 Tryd.underlying3 rfl) rfl ?_
     refine wpl_q (q_addN rfl rfl (Nat.le_trans (Nat.add_le_add_left (Nat.le_of_lt (UInt8.toNat_lt _)) _) zz20)) rfl ?_
     refine wpl_q (q_pure rfl) rfl <| wpl_nil <| ex_then <| wpc_ret ?_
     refine ret1 (.inl rfl) rfl rfl ?_
     exact fun w h => ⟨by
       have e0 := sr64_nat x 8 zz20
       have := len_fin (x := x) (y := (sr64 x 8)) 8 (by rw [e0]; first | done | omega) zz14 zz14
       rw [← this], h.below⟩
    ·
     try simp only [decide_eq_true_eq, decide_eq_false_iff_not, ge_iff_le] at hc14
     refine wpc_skip <| ex_then <| wpc_seq <| wpc_region <| wpl_q (q_pure rfl) rfl <| wpl_q (q_pure rfl) rfl <| wpl_q (q8_conv Tryd.underlying23 Tryd.underlying5 rfl) rfl ?_
     refine wpl_q (q_strIdx (xs := tab8) Tryd.underlying9 zz7 rfl zz42) rfl ?_
     refine wpl_q (q8_int Tryd.underlying5 Tryd.underlying3 rfl) rfl ?_
     refine wpl_q (q_addN rfl rfl (Nat.le_trans (Nat.add_le_add_left (Nat.le_of_lt (UInt8.toNat_lt _)) _) zz20)) rfl ?_
     refine wpl_q (q_pure rfl) rfl <| wpl_nil <| ex_then <| wpc_ret ?_
     refine ret1 (.inl rfl) rfl rfl ?_
     exact fun w h => ⟨by
       skip
       have := len_fin (x := x) (y := x) 0 zz41 zz14 zz14
       rw [← this], h.below⟩
theorem len_ (x : UInt64) (w : World)   :
    Calls Tryd.prog 94 [.int .u64 x.toNat].toArray w (Pur w (.int .i64 ((lenF x.toNat : Nat) : Int))) := by
  refine enter (m := 8) (R := Mem w [] [] []) Tryd.func94 rfl rfl (Nat.le_of_ble_eq_true rfl) (Mem.start w) ?_
  refine wpc_seq <| wpc_region <| wpl_q (q_pure rfl) rfl <| wpl_nil <| ex_then <| wpc_seq ?_
  refine wpc_cond_f rfl ?_
  refine wpc_skip <| ex_then <| wpc_seq <| wpc_region <| wpl_q (q_pure rfl) rfl ?_
  refine wpl_t (t_pur Tryd.hb46 rfl fun w h => len64 x w) rfl (fun b7 => ?_)
  refine wpl_q (q_pure rfl) rfl <| wpl_nil <| ex_then <| wpc_ret ?_
  refine ret1 (.inl rfl) rfl rfl ?_
  exact fun w h => ⟨rfl, h.below⟩
theorem wide (n : Nat) (w : World)  (hn : n < 16777216) :
    Calls Tryd.prog 77 [.int .i64 ((n : Nat) : Int)].toArray w (Pur w (.int .i64 ((wideF n : Nat) : Int))) := by
  refine enter (m := 11) (R := Mem w [] [] []) Tryd.func77 rfl rfl (Nat.le_of_ble_eq_true rfl) (Mem.start w) ?_
  refine wpc_seq <| wpc_region <| wpl_q (q_pure rfl) rfl <| wpl_nil <| ex_then <| wpc_seq <| wpc_seq <| wpc_region <| wpl_q (q_pure rfl) rfl <| wpl_q (q_pure rfl) rfl <| wpl_nil <| ex_then ?_
  refine wpc_cond rfl (fun hc4 => ?_) (fun hc4 => ?_)
  ·
   simp only [decide_eq_true_eq] at hc4
   refine wpc_seq <| wpc_region <| wpl_q (q_pure rfl) rfl <| wpl_nil <| ex_then <| wpc_ret ?_
   refine ex_then_ret ?_
   refine ret1 (.inl rfl) rfl rfl ?_
   exact fun w h => ⟨by rw [wideF, if_pos zz14]; rfl, h.below⟩
  ·
   simp only [decide_eq_false_iff_not] at hc4
   refine wpc_skip <| ex_then <| wpc_seq <| wpc_region <| wpl_q (q_pure rfl) rfl <| wpl_q (q64_conv Tryd.underlying3 Tryd.underlying100 rfl) rfl ?_
   refine wpl_t (t_pur (v := .int .i64 ((lenF n : Nat) : Int)) Tryd.hb94 rfl fun w h => by have q := len_ (of64 ((n : Nat) : Int)) w; rw [of64_nat n zz14] at q; rw [of64_nat n zz14]; exact q) rfl (fun b7 => ?_)
   have hle := lenF_le (m := 24) (n := n) zz14
   refine wpl_q (q_addN (b := 7) rfl rfl zz1) rfl ?_
   refine wpl_q (q_quoN (b := 8) rfl rfl zz23 zz1) rfl ?_
   refine wpl_q (q_addN (a := 1) rfl rfl zz1) rfl ?_
   refine wpl_q (q_pure rfl) rfl <| wpl_nil <| ex_then <| wpc_ret ?_
   refine ret1 (.inl rfl) rfl rfl ?_
   exact fun w h => ⟨by rw [wideF, if_neg zz14], h.below⟩
end Go.Proofs.YtgnablliekgbgaaDoor
namespace Go.Proofs.YtgnablliekgbgaaDoor
open Go Go.PL Go.RowKit
mutual
def Tr.cnt : Tr → Nat
  | .nd _ _ l => 1 + cntL l
def cntL : List Tr → Nat
  | [] => 0
  | x :: l => x.cnt + cntL l
end
mutual
def Tr.dep : Tr → Nat
  | .nd _ _ l => depL l + 1
def depL : List Tr → Nat
  | [] => 0
  | x :: l => max x.dep (depL l)
end
mutual
def Tr.byt : Tr → Nat
  | .nd _ bs l => bs.length + bytL l
def bytL : List Tr → Nat
  | [] => 0
  | x :: l => x.byt + bytL l
end
mutual
def Tr.siz : Tr → Nat
  | .nd _ bs l => 1 + wideF (bs.length + sizL l) + (bs.length + sizL l)
def sizL : List Tr → Nat
  | [] => 0
  | x :: l => x.siz + sizL l
end
def badT (t : UInt8) (b n : Nat) : Bool := decide (t = 0) || (decide (t < 128) && decide (0 < n)) || (decide (128 ≤ t) && decide (0 < b))
mutual
def Tr.shp : Tr → Bool
  | .nd t bs l => !badT t bs.length l.length && shpL l
def shpL : List Tr → Bool
  | [] => true
  | x :: l => x.shp && shpL l
end
theorem cntL_app : ∀ (a b : List Tr), cntL (a ++ b) = cntL a + cntL b
  | [], b => by simp [cntL]
  | x :: a, b => by rw [List.cons_append, cntL, cntL, cntL_app a b]; omega
theorem bytL_app : ∀ (a b : List Tr), bytL (a ++ b) = bytL a + bytL b
  | [], b => by simp [bytL]
  | x :: a, b => by rw [List.cons_append, bytL, bytL, bytL_app a b]; omega
theorem sizL_app : ∀ (a b : List Tr), sizL (a ++ b) = sizL a + sizL b
  | [], b => by simp [sizL]
  | x :: a, b => by rw [List.cons_append, sizL, sizL, sizL_app a b]; omega
theorem depL_app : ∀ (a b : List Tr), depL (a ++ b) = max (depL a) (depL b)
  | [], b => by simp [depL]
  | x :: a, b => by rw [List.cons_append, depL, depL, depL_app a b]; omega
section
variable {l : List HT} {i : Nat} (h : i < l.length)
include h
theorem trs_takeS : trs (l.take (i + 1)) = trs (l.take i) ++ [(l.getD i HT.z).tr] := by rw [take_succD HT.z h, trs_append]; rfl
theorem trs_split : trs l = trs (l.take i) ++ (l.getD i HT.z).tr :: trs (l.drop (i + 1)) := by
  conv => lhs; rw [← List.take_append_drop i l, drop_consD HT.z h, trs_append]
  rfl
theorem sizL_take : sizL (trs (l.take (i + 1))) = sizL (trs (l.take i)) + (l.getD i HT.z).tr.siz := by rw [trs_takeS h, sizL_app]; rfl
theorem cntL_kid : cntL (trs (l.take i)) + (l.getD i HT.z).tr.cnt ≤ cntL (trs l) := by rw [trs_split h, cntL_app, cntL]; omega
theorem bytL_kid : bytL (trs (l.take i)) + (l.getD i HT.z).tr.byt ≤ bytL (trs l) := by rw [trs_split h, bytL_app, bytL]; omega
theorem sizL_kid : sizL (trs (l.take i)) + (l.getD i HT.z).tr.siz ≤ sizL (trs l) := by rw [trs_split h, sizL_app, sizL]; omega
theorem depL_kid : (l.getD i HT.z).tr.dep ≤ depL (trs l) := by rw [trs_split h, depL_app, depL]; omega
end
theorem cnt_pos (t : Tr) : 1 ≤ t.cnt := by cases t; rw [Tr.cnt]; omega
theorem cntL_len : ∀ l : List Tr, l.length ≤ cntL l
  | [] => Nat.le_refl _
  | x :: l => by have := cntL_len l; have := cnt_pos x; rw [cntL, List.length_cons]; omega
def Sm (t : Tr) : Prop := t.byt + 5 * t.cnt ≤ 1000000
theorem Sm.kid {tg : UInt8} {bv lv : Value} {bs : List UInt8} {l : List HT} (h : Sm (HT.nd tg bv bs lv l).tr) {i : Nat} (hi : i < l.length) : Sm (l.getD i HT.z).tr := by
  have h1 := cntL_kid hi
  have h2 := bytL_kid hi
  have h : bs.length + bytL (trs l) + 5 * (1 + cntL (trs l)) ≤ 1000000 := h
  unfold Sm; omega
theorem siz_le : ∀ t : Tr, Sm t → t.siz ≤ t.byt + 5 * t.cnt := by
  intro t
  induction t using Tr.ind with
  | _ tg bs l ih =>
    intro h
    have h : bs.length + bytL l + 5 * (1 + cntL l) ≤ 1000000 := h
    have key : ∀ m : List Tr, (∀ x ∈ m, x ∈ l) → bytL m + 5 * cntL m ≤ 1000000 → sizL m ≤ bytL m + 5 * cntL m := by
      intro m
      induction m with
      | nil => intro _ _; exact Nat.le_refl _
      | cons x m ihm =>
        intro hm hb
        rw [bytL, cntL] at hb
        have h1 := ih x (hm x (List.mem_cons_self ..)) (by unfold Sm; omega)
        have h2 := ihm (fun y hy => hm y (List.mem_cons_of_mem _ hy)) zz14
        rw [sizL, bytL, cntL]; omega
    have h1 := key l (fun _ hx => hx) zz14
    have h2 := wideF_le (bs.length + sizL l) zz14
    rw [Tr.siz, Tr.byt, Tr.cnt]; omega
theorem content_le {t : UInt8} {bs : List UInt8} {l : List Tr} (h : Sm (.nd t bs l)) : bs.length + sizL l ≤ 1000000 := by
  have h1 := siz_le _ h
  have h2 : bs.length + bytL l + 5 * (1 + cntL l) ≤ 1000000 := h
  rw [Tr.siz, Tr.byt, Tr.cnt] at h1; omega
theorem size_step (t : HT) (w : World) (ht : HSeen w.cell? t) (hsm : Sm t.tr) (ih : ∀ x ∈ t.kids, ∀ (w : World), HSeen w.cell? x → Sm x.tr → Calls Tryd.prog 76 [.agg x.c.toArray].toArray w (Pur w (.int .i64 ((x.tr.siz : Nat) : Int)))) :
    Calls Tryd.prog 76 [.agg t.c.toArray].toArray w (Pur w (.int .i64 ((t.tr.siz : Nat) : Int))) := by
  obtain ⟨tg, bv, bs, lv, l⟩ := t
  have hb := ht.1
  have hk := ht.2.1
  have svb := hb.sv
  have svl := hk.sv
  have lb := svb.le
  have ll := svl.le
  simp only [maxLen] at lb ll
  refine enter (m := 26) (R := Mem w [] [] []) Tryd.func76 rfl rfl (Nat.le_of_ble_eq_true rfl) (Mem.start w) ?_
  refine wpc_seq <| wpc_region ?_
  refine wpl_t (t_box rfl [.int .u8 (tg.toNat : Int), bv, lv] rfl) rfl (fun b1 => ?_)
  refine wpl_q (q_pure rfl) rfl <| wpl_nil <| ex_then <| wpc_seq <| wpc_region <| wpl_q (q_field Tryd.underlying61 rfl Tryd.ti34 rfl rfl _ rfl) rfl <| wpl_q (q_ld Tryd.underlying34 rfl rfl rfl) rfl ?_
  refine wpl_q (q_lenW Tryd.underlying34 rfl zz3) rfl ?_
  refine wpl_q (q_pure rfl) rfl <| wpl_nil <| ex_then <| wpc_seq <| wpc_seq <| wpc_region <| wpl_q (q_field Tryd.underlying61 rfl Tryd.ti59 rfl rfl _ rfl) rfl <| wpl_q (q_ld Tryd.underlying59 rfl rfl rfl) rfl ?_
  refine wpl_q (q_lenW Tryd.underlying59 rfl zz3) rfl ?_
  refine wpl_q (q_pure rfl) rfl <| wpl_nil <| ex_then <| wpc_block ?_
  refine wpc_loopc (ι := { x : Nat // (x ≤ l.length) }) [(10, _), (11, _)] (fun x Lc => (12, .int .i64 ((x.1 : Nat) : Int)) :: (3, .int .i64 ((bs.length + sizL (trs (l.take x.1)) : Nat) : Int)) :: Lc) (fun x => Mem w [] [] []) (fun x => l.length - x.1) ⟨0, (Nat.zero_le _)⟩ zz9 ?_ ?_
  ·
   exact fun w h => h.sub .nil .nil
  ·
   rintro ⟨i, hi0⟩; try dsimp only
   have hi0 : i ≤ l.length := hi0
   refine wpc_seq <| wpc_region <| wpl_q (q_pure rfl) rfl <| wpl_nil <| ex_then <| wpc_seq ?_
   refine wpc_cond rfl (fun hc13 => ?_) (fun hc13 => ?_)
   ·
    simp only [decide_eq_true_eq] at hc13
    have hil : i < l.length := by omega
    haveI := (ht.kid hil).sv.one
    have hs1 := sizL_take hil
    have hs2 := sizL_kid hil
    have hs3 := content_le hsm
    refine wpc_skip <| ex_then <| wpc_seq <| wpc_block <| wpc_seq <| wpc_region ?_
    refine wpl_q (q_idxW Tryd.underlying59 Tryd.ti61 rfl rfl zz3 zz1) rfl ?_
    refine wpl_q (q_ldWN Tryd.underlying61 rfl Tryd.ti61 rfl (fun w h => h.seen_old hk) (l.getD i HT.z).c (cat_part HT.c_length HT.z hil) (HT.c_length _)) rfl ?_
    refine wpl_t (t_alloc Tryd.ti61 HT.z.c rfl) rfl (fun b5 => ?_)
    refine wpl_t0 (t_stA Tryd.ti61 rfl rfl LenC.h OneC.h LenC.h) (fun _ => ?_)
    refine wpl_nil <| ex_then <| wpc_region <| wpl_q (q_pure rfl) rfl <| wpl_q (q_ldN Tryd.underlying61 rfl Tryd.ti61 rfl LenC.h) rfl ?_
    refine wpl_t (t_pur Tryd.hb76 rfl fun w h => ih (l.getD i HT.z) (getD_memH hil) w ((ht.kid hil).old h) (hsm.kid hil)) rfl (fun b18 => ?_)
    refine wpl_q (q_addN rfl rfl zz1) rfl ?_
    refine wpl_re 19 rfl (congrArg (fun n : Nat => Value.int .i64 (n : Int)) (show bs.length + sizL (trs (l.take i)) + (l.getD i HT.z).tr.siz = bs.length + sizL (trs (l.take (i + 1))) from zz14)) ?_
    refine wpl_q (q_pure rfl) rfl <| wpl_nil <| ex_block <| ex_then <| wpc_region ?_
    refine wpl_q (q_addN (b := 1) rfl rfl zz1) rfl ?_
    refine wpl_q (q_pure rfl) rfl <| wpl_nil ?_
    refine ex_again ⟨i + 1, zz14⟩ ?_ ?_ ?_
    ·
     exact zz9
    ·
     exact fun w h => h.sub .nil .nil
    ·
     (show l.length - (i + 1) < l.length - i); omega
   ·
    simp only [decide_eq_false_iff_not] at hc13
    obtain rfl : i = l.length := by omega
    rw [List.take_length]
    have hs3 := content_le hsm
    have hw := wideF_le (bs.length + sizL (trs l)) zz14
    refine wpc_exit ?_
    refine ex_then_exit ?_
    refine ex_then_exit ?_
    refine ex_block_hit ?_
    refine ex_then <| wpc_seq <| wpc_region <| wpl_q (q_pure rfl) rfl ?_
    refine wpl_t (t_pur Tryd.hb77 rfl fun w h => wide _ w zz14) rfl (fun b22 => ?_)
    refine wpl_q (q_addN (a := 1) rfl rfl zz1) rfl ?_
    refine wpl_q (q_pure rfl) rfl ?_
    refine wpl_q (q_addN rfl rfl zz1) rfl ?_
    refine wpl_q (q_pure rfl) rfl <| wpl_nil <| ex_then <| wpc_ret ?_
    refine ret1 (.inl rfl) rfl rfl ?_
    exact fun w h => ⟨rfl, h.below⟩
theorem size : ∀ (t : HT) (w : World), HSeen w.cell? t → Sm t.tr → Calls Tryd.prog 76 [.agg t.c.toArray].toArray w (Pur w (.int .i64 ((t.tr.siz : Nat) : Int))) := by
  intro t
  induction t using HT.ind with
  | _ tg bv bs lv l ih => intro w h hs; exact size_step _ w h hs (fun x hx w hx' hs' => ih x hx w hx' hs')
end Go.Proofs.YtgnablliekgbgaaDoor
namespace Go.Proofs.YtgnablliekgbgaaDoor
open Go Go.PL Go.RowKit
def checkF (t : Tr) : Int := if 4000 < t.cnt ∨ 12 < t.dep then 4 else if t.shp = false then 8 else if 65536 < t.siz then 4 else 0
end Go.Proofs.YtgnablliekgbgaaDoor
namespace Go.Proofs.YtgnablliekgbgaaDoor
open Go Go.PL Go.RowKit
section
variable {P : Program} {n : Cx} {R : World → Prop} {L : Slots} {Q : Exit → Act → World → Prop} {w0 : World} {Ln : List Nat} {M : List Ent} {S : List Fact}
theorem q_cvBS {s t e : TypeId} {x : Operand} {v : Value} {m : Nat} {bs : List UInt8} (hs' : P.underlying s = some (.slice e)) (he : P.underlying e = some (.int .u8)) (hu : P.underlying t = some .string) (hx : ev L x = some v) (hs : ∀ w, R w → Seen w.cell? v m 1 (v8s bs)) : QOp P n R L (.convert s t x) (str bs) := by
  intro d ty pos af g a w hsl hr
  obtain ⟨h1, ad, cap, rfl, h3, h4, h5⟩ := hs w hr
  have hm : m = bs.length := by rw [v8s_length] at h1; omega
  subst hm
  simp only [execOp, hsl.eval hx]
  rcases h5 with ⟨rfl, rfl⟩ | ⟨a', rfl, h6⟩
  · have h0 : bs.length = 0 := by omega
    obtain rfl : bs = [] := List.eq_nil_of_length_eq_zero h0
    have r := Lib.run_convert_nil_bytes (P := P) w s t e 0 hs' he hu
    have r' : (convert s t (.slice none ([] : List UInt8).length 0)).run P w = _ := r
    simp only [Sem.run_bind, r']; rfl
  · have r := run_convert_bytes_back (P := P) w s t e a' cap bs hs' he hu (fun j hj => by
      refine h6 j _ ?_
      have := v8s_get (xs := bs) (i := j) hj
      rw [this]
      congr 2
      rw [List.getD_eq_getElem?_getD, List.getElem?_eq_getElem hj]; rfl)
    simp only [Sem.run_bind, r]; rfl
theorem t_cvSB {s t e : TypeId} {x : Operand} {bs : List UInt8} (hs' : P.underlying s = some .string) (hu : P.underlying t = some (.slice e)) (he : P.underlying e = some (.int .u8)) (hx : ev L x = some (str bs)) (hl : bs.length ≤ maxLen) :
    TOpP P Q n (Mem w0 Ln M S) L (.convert s t x) Value (fun v => SV v bs.length) (fun v => v) (fun v => Mem w0 Ln M (Go.PL.seen v bs.length 1 (v8s bs) :: S)) := by
  have h : TOp P Q n (Mem w0 Ln M S) L (.convert s t x) { v : Value // SV v bs.length } (fun v => v.1) (fun v => Mem w0 Ln M (Go.PL.seen v.1 bs.length 1 (v8s bs) :: S)) := by
    intro d ty pos af g a w K hsl hm hk
    have r := Lib.run_convert_string_bytes (P := P) w s t e ⟨bs.toArray⟩ hs' hu he
    have hge := grownCap_ge w bs.length 0 e
    have hle := grownCap_le_maxLen w bs.length 0 e hl
    have hx' : ev L x = some (.string ⟨bs.toArray⟩) := hx
    have hsz : (⟨bs.toArray⟩ : ByteArray).size = bs.length := rfl
    unfold Oper.wp
    have hrun : (execOp a.eval ⟨d, .convert s t x, ty, pos, af, g⟩).run P w = .ok (.value (.slice (some ⟨w.heap.size, 0, none⟩) bs.length (grownCap w bs.length 0 e))) (Lib.bytesWorld w e ⟨bs.toArray⟩) := by
      simp only [execOp, hsl.eval hx']
      simp only [Sem.run_bind, r]; rfl
    rw [hrun]
    have hb : Below w.heap.size w (Lib.bytesWorld w e ⟨bs.toArray⟩) := by
      refine ⟨rfl, rfl, rfl, ?_, fun k hk => ?_⟩
      · rw [Lib.bytesWorld_size]; omega
      · exact Lib.bytesWorld_at_old w e _ k hk
    have hsv : SV (.slice (some ⟨w.heap.size, 0, none⟩) bs.length (grownCap w bs.length 0 e)) bs.length := ⟨_, _, rfl, hge, hle, fun h => by cases h⟩
    have hn : New w.heap.size [] [Go.PL.seen (.slice (some ⟨w.heap.size, 0, none⟩) bs.length (grownCap w bs.length 0 e)) bs.length 1 (v8s bs)] (Lib.bytesWorld w e ⟨bs.toArray⟩) := by
      refine ⟨zz41, zz41, zz41, fun f hf => ?_⟩
      rw [List.mem_singleton] at hf
      subst hf
      refine ⟨by rw [v8s_length]; simp, _, _, rfl, hge, hle, .inr ⟨_, rfl, fun j u hj => ?_⟩⟩
      have hj2 : j < bs.length := by
        have := (List.getElem?_eq_some_iff.1 hj).1
        rwa [v8s_length] at this
      rw [v8s_get (xs := bs) (i := j) hj2] at hj
      have hc := Lib.bytesWorld_cell w e ⟨bs.toArray⟩ j hj2
      have ea : (⟨w.heap.size, 0, none⟩ : Addr).add j = ⟨w.heap.size, j, none⟩ := by rw [add_lit, Nat.zero_add]
      rw [ea]
      simp only [rdF]
      rw [if_pos ⟨Nat.le_refl _, rfl⟩, hc, ← hj]
    exact hk ⟨_, hsv⟩ _ (hm.call hb hn)
  exact h.rep fun x w h => ⟨x.1, x.2, rfl, h⟩
end
theorem same_stepB (xs ys : List UInt8) (i : Nat) (h : xs.take i = ys.take i) (hx : i < xs.length) (hy : i < ys.length) (he : xs.getD i 0 = ys.getD i 0) : xs.take (i + 1) = ys.take (i + 1) := by
  rw [take_succD 0 hx, take_succD 0 hy, h, he]
theorem sameB (av : Value) (xs : List UInt8) (bv : Value) (ys : List UInt8) (w : World) (hav : Seen w.cell? av xs.length 1 (v8s xs)) (hbv : Seen w.cell? bv ys.length 1 (v8s ys))  :
    Calls Tryd.prog 21 [av, bv].toArray w (Pur w (.bool (decide (xs = ys)))) := by
  have sav := hav.sv
  have lav := sav.le
  simp only [maxLen] at lav
  have sbv := hbv.sv
  have lbv := sbv.le
  simp only [maxLen] at lbv
  refine enter (m := 26) (R := Mem w [] [] []) Tryd.func21 rfl rfl (Nat.le_of_ble_eq_true rfl) (Mem.start w) ?_
  refine wpc_seq <| wpc_region <| wpl_q (q_pure rfl) rfl <| wpl_nil <| ex_then <| wpc_seq <| wpc_seq <| wpc_region <| wpl_q (q_pure rfl) rfl ?_
  refine wpl_q (q_lenW Tryd.underlying34 rfl zz3) rfl ?_
  refine wpl_q (q_pure rfl) rfl ?_
  refine wpl_q (q_lenW Tryd.underlying34 rfl zz3) rfl ?_
  refine wpl_q (q_pure rfl) rfl <| wpl_nil <| ex_then ?_
  refine wpc_cond rfl (fun hc10 => ?_) (fun hc10 => ?_)
  ·
   simp only [decide_eq_true_eq, bne_iff_ne, ne_eq] at hc10
   have hne : xs ≠ ys := fun e => hc10 (by rw [e])
   refine wpc_seq <| wpc_region <| wpl_q (q_pure rfl) rfl <| wpl_nil <| ex_then <| wpc_ret ?_
   refine ex_then_ret ?_
   refine ret1 (.inl rfl) rfl rfl ?_
   exact fun w h => ⟨by simp [hne], h.below⟩
  ·
   simp only [bne_eq_false_iff_eq] at hc10
   have hl : xs.length = ys.length := by omega
   refine wpc_skip <| ex_then <| wpc_seq <| wpc_seq <| wpc_region <| wpl_q (q_pure rfl) rfl <| wpl_nil <| ex_then <| wpc_block ?_
   refine wpc_loopc (ι := { x : Nat // (x ≤ xs.length) ∧ (xs.take x = ys.take x) }) [(0, _), (1, _)] (fun x Lc => (5, .int .i64 ((x.1 : Nat) : Int)) :: Lc) (fun x => Mem w [] [] []) (fun x => xs.length - x.1) ⟨0, ⟨Nat.zero_le _, rfl⟩⟩ zz9 ?_ ?_
   ·
    exact fun w h => h
   ·
    rintro ⟨i, ⟨hi0, hi1⟩⟩; try dsimp only
    have hi0 : i ≤ xs.length := hi0; have hi1 : xs.take i = ys.take i := hi1
    refine wpc_seq <| wpc_seq <| wpc_region <| wpl_q (q_pure rfl) rfl <| wpl_q (q_pure rfl) rfl ?_
    refine wpl_q (q_lenW Tryd.underlying34 rfl zz3) rfl ?_
    refine wpl_q (q_pure rfl) rfl <| wpl_nil <| ex_then ?_
    refine wpc_cond rfl (fun hc14 => ?_) (fun hc14 => ?_)
    ·
     try simp only [decide_eq_true_eq, decide_eq_false_iff_not, Bool.and_eq_true, Bool.or_eq_true, beq_iff_eq, bne_iff_ne, ne_eq, Bool.not_eq_true', Bool.not_eq_false', Decidable.not_not] at hc14
     refine wpc_skip <| ex_then <| wpc_seq <| wpc_block <| wpc_seq ?_
     refine wpc_draw 9 zz7 (fun _ h => h.drew) ?_
     refine wpd_p 0 rfl zz7 trivial (q_pure rfl) rfl sk0 ?_
     refine wpd_p 1 rfl zz7 trivial (q_pure rfl) rfl sk0 ?_
     refine wpd_p 2 rfl zz7 trivial (q_idxW1 Tryd.underlying34 Tryd.ti5 rfl rfl zz3 zz1) rfl sk0 ?_
     refine wpd_q 3 rfl zz7 trivial (q_ldW Tryd.underlying5 rfl rfl (fun w h => zz13) zz34) rfl (fun _ h => h) ?_
     refine wpd_p 4 rfl zz7 trivial (q_pure rfl) rfl sk0 ?_
     refine wpd_p 5 rfl zz7 trivial (q_pure rfl) rfl sk0 ?_
     refine wpd_p 6 rfl zz7 trivial (q_idxW1 Tryd.underlying34 Tryd.ti5 rfl rfl zz3 zz1) rfl sk0 ?_
     refine wpd_q 7 rfl zz7 trivial (q_ldW Tryd.underlying5 rfl rfl (fun w h => zz13) zz34) rfl (fun _ h => h) ?_
     refine wpd_p 8 rfl zz7 trivial (q8_neq rfl rfl) rfl sk0 ?_
     refine wpd_done zz7 ?_
     refine ex_then ?_
     refine wpc_cond rfl (fun hc25 => ?_) (fun hc25 => ?_)
     ·
      simp only [Bool.not_eq_true', decide_eq_false_iff_not] at hc25
      have hne : xs ≠ ys := fun e => hc25 (by rw [e])
      refine wpc_seq <| wpc_region <| wpl_q (q_pure rfl) rfl <| wpl_nil <| ex_then <| wpc_ret ?_
      refine ex_block_ret ?_
      refine ex_then_ret ?_
      refine ex_then_ret ?_
      refine ex_block_ret ?_
      refine ex_then_ret ?_
      refine ret1 (.inl rfl) rfl rfl ?_
      exact fun w h => ⟨by simp [hne], h.below⟩
     ·
      simp only [Bool.not_eq_false', decide_eq_true_eq] at hc25
      refine wpc_skip <| ex_block <| ex_then <| wpc_region <| wpl_q (q_pure rfl) rfl ?_
      refine wpl_q (q_addN (b := 1) rfl rfl zz1) rfl ?_
      refine wpl_q (q_pure rfl) rfl <| wpl_nil ?_
      refine ex_again ⟨i + 1, ⟨zz14, same_stepB xs ys i hi1 zz14 zz14 hc25⟩⟩ ?_ ?_ ?_
      ·
       exact zz9
      ·
       exact fun w h => by first | exact h | exact h.sub SubC.h SubC.h | exact h.sub zz8 zz8
      ·
       (show xs.length - (i + 1) < xs.length - i); omega
    ·
     simp only [decide_eq_false_iff_not] at hc14
     obtain rfl : i = xs.length := by omega
     have heq : xs = ys := by rw [List.take_length, hl, List.take_length] at hi1; exact hi1
     refine wpc_exit ?_
     refine ex_then_exit ?_
     refine ex_then_exit ?_
     refine ex_block_hit ?_
     refine ex_then <| wpc_seq <| wpc_region <| wpl_q (q_pure rfl) rfl <| wpl_nil <| ex_then <| wpc_ret ?_
     refine ret1 (.inl rfl) rfl rfl ?_
     exact fun w h => ⟨by simp [heq], h.below⟩
end Go.Proofs.YtgnablliekgbgaaDoor
