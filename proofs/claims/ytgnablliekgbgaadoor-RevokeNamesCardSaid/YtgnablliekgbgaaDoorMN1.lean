/- What the statement reaches, in order. -/
import Derived.Test.YtgnablliekgbgaaDoorMNPLN
import Derived.Test.YtgnablliekgbgaaDoorMNPLL
import Derived.Test.YtgnablliekgbgaaDoorMNTI
import Derived.Test.YtgnablliekgbgaaDoorMNPLI
import Derived.Test.YtgnablliekgbgaaDoorMNPLZ
import Derived.KernelRfl
import Derived.Lib.BufferRead
import Derived.Lib.ConvBytes
import Derived.Laws.IdiomStrings
import Derived.Test.YtgnablliekgbgaaDoorMNPLH
import Derived.Recover
import Derived.WalkKit
import Derived.ProofKit
import Derived.OpenShut
import Derived.ChangeOld
import Derived.Below
import Derived.Carry
import Derived.LaidMore
import Derived.Deep.DeepHandedRow
import Derived.Deep.DeepWitnessRowRef
import Derived.Lib.LaidTab
import Derived.Stop.Joined
set_option linter.unusedSimpArgs false
set_option linter.unusedVariables false
set_option maxRecDepth 100000
namespace Go.Proofs.YtgnablliekgbgaaDoor
open Go Go.PL Go.RowKit
def sgChk (ht idx : Int) (nc np : Nat) : Int := if 0 ≤ ht ∧ ht ≤ 4 then (if 0 ≤ idx ∧ idx < ((2 ^ ht.toNat : Nat) : Int) ∧ nc = 35 ∧ (np : Int) = ht then 0 else 12) else 2
theorem check_2 {ht idx : Int} {nc np : Nat} (h : ¬ (0 ≤ ht ∧ ht ≤ 4)) : sgChk ht idx nc np = 2 := if_neg h
theorem check_in {m : Nat} {idx : Int} {nc np : Nat} (h : (m : Int) ≤ 4) : sgChk m idx nc np = if 0 ≤ idx ∧ idx < ((2 ^ m : Nat) : Int) ∧ nc = 35 ∧ np = m then 0 else 12 := by
  unfold sgChk
  rw [if_pos ⟨Int.natCast_nonneg m, h⟩, Int.toNat_natCast]
  simp only [Int.ofNat_inj]
theorem check_12 {m : Nat} {idx : Int} {nc np : Nat} (h : (m : Int) ≤ 4) (hn : ¬ (0 ≤ idx ∧ idx < ((2 ^ m : Nat) : Int) ∧ nc = 35 ∧ np = m)) : sgChk m idx nc np = 12 := (check_in h).trans (if_neg hn)
theorem check_0 {m : Nat} {idx : Int} {nc np : Nat} (h : (m : Int) ≤ 4) (hn : 0 ≤ idx ∧ idx < ((2 ^ m : Nat) : Int) ∧ nc = 35 ∧ np = m) : sgChk m idx nc np = 0 := (check_in h).trans (if_pos hn)
theorem pow_le16 {m : Nat} (h : m ≤ 4) : 2 ^ m ≤ 16 := Nat.le_trans (Nat.pow_le_pow_right zz19 h) zz19
structure Rv where
  nm : List UInt8
  no : UInt64
  fr : Int
  tt : Int
  sv : Value
  ss : List UInt64
  ix : Int
  cv : Value
  chs : List (List UInt8)
  pv : Value
  ps : List (List UInt8)
def Rv.c (l : Rv) : List Value := [str l.nm, .int .u64 (l.no.toNat : Int), .int .i64 l.fr, .int .i64 l.tt, l.sv, .int .i64 l.ix, l.cv, l.pv]
def Rv.z : Rv := ⟨[], 0, 0, 0, .slice none 0 0, [], 0, .slice none 0 0, [], .slice none 0 0, []⟩
def Rv.win (l : Rv) : List Value := [.int .i64 l.fr, .int .i64 l.tt]
def Rv.sig (l : Rv) : List Value := [.int .i64 l.ix, l.cv, l.pv]
instance lenC_rv {l : Rv} : LenC l.c 8 := ⟨rfl⟩
def Rv.svs (l : Rv) : Prop := SV l.sv l.ss.length ∧ SV l.cv l.chs.length ∧ SV l.pv l.ps.length
theorem Rv.svs.one {l : Rv} (h : l.svs) : OneC l.c := OneC.cons rfl (OneC.cons rfl (OneC.cons rfl (OneC.cons rfl (OneC.cons (SV.one h.1) (OneC.cons rfl (OneC.cons (SV.one h.2.1) (OneC.cons (SV.one h.2.2) oneC_nil)))))))
structure Rv.seen (r : Rd) (l : Rv) : Prop where
  s : Seen r l.sv l.ss.length 1 (v64s l.ss)
  c : Seen r l.cv l.chs.length 16 (v8s l.chs.flatten)
  lc : ∀ x ∈ l.chs, x.length = 16
  p : Seen r l.pv l.ps.length 16 (v8s l.ps.flatten)
  lp : ∀ x ∈ l.ps, x.length = 16
theorem Rv.seen.mono {r r' : Rd} {l : Rv} (h : l.seen r) (k : ∀ a v, r a = some v → r' a = some v) : l.seen r' := ⟨h.s.mono k, h.c.mono k, h.lc, h.p.mono k, h.lp⟩
theorem Rv.seen.svs {r : Rd} {l : Rv} (h : l.seen r) : l.svs := ⟨h.s.sv, h.c.sv, h.p.sv⟩
theorem Rv.seen.old {l : Rv} {w0 w : World} {Ln : List Nat} {M : List Ent} {S : List Fact} (hs : l.seen w0.cell?) (h : Mem w0 Ln M S w) (hn : Ln = []) : l.seen w.cell? := by
  subst hn
  exact ⟨h.seen_old hs.s, h.seen_old hs.c, hs.lc, h.seen_old hs.p, hs.lp⟩
def goodB (c : UInt8) : Bool := (decide (97 ≤ c.toNat) && decide (c.toNat ≤ 122)) || (decide (65 ≤ c.toNat) && decide (c.toNat ≤ 90)) || (decide (48 ≤ c.toNat) && decide (c.toNat ≤ 57)) || decide (c.toNat = 45) || decide (c.toNat = 95)
def nameF (xs : List UInt8) : Bool := decide (1 ≤ xs.length) && decide (xs.length ≤ 40) && xs.all goodB
def timeF (t : Int) : Bool := decide (0 ≤ t) && decide (t ≤ 1099511627776)
def winF (a b : Int) : Bool := timeF a && timeF b && decide (a ≤ b)
def sigB (ix : Int) (nc np : Nat) : Bool := decide (ix ≠ 0) || decide (0 < nc) || decide (0 < np)
def gsigB (ix : Int) (nc np : Nat) : Bool := !sigB ix nc np || decide (sgChk (np : Int) ix nc np = 0)
def incF (ss : List UInt64) (n : Nat) : Prop := ∀ i, i < n → (if i = 0 then 0 else ss.getD (i - 1) 0) < ss.getD i 0
instance {ss : List UInt64} {n : Nat} : Decidable (incF ss n) := by unfold incF; exact inferInstance
def okA (l : Rv) : Bool := nameF l.nm && winF l.fr l.tt && gsigB l.ix l.chs.length l.ps.length
def okR (l : Rv) : Bool := okA l && decide (incF l.ss l.ss.length)
def chkR (l : Rv) : Int := if 500 < l.ss.length then 4 else if okR l then 0 else 8
def lastN (ss : List UInt64) (n : Nat) : UInt64 := if n = 0 then 0 else ss.getD (n - 1) 0
theorem incF_0 (ss : List UInt64) : incF ss 0 := fun i hi => absurd hi (Nat.not_lt_zero _)
theorem incF_S {ss : List UInt64} {n : Nat} : incF ss (n + 1) ↔ incF ss n ∧ lastN ss n < ss.getD n 0 := by
  constructor
  · intro h; exact ⟨fun i hi => h i zz12, h n (Nat.lt_succ_self _)⟩
  · rintro ⟨h1, h2⟩ i hi
    rcases Nat.lt_or_ge i n with h3 | h3
    · exact h1 i h3
    · obtain rfl : i = n := by omega
      exact h2
theorem incF_lt {ss : List UInt64} {n : Nat} (h : incF ss n) : ∀ j, j < n → ∀ i, i < j → ss.getD i 0 < ss.getD j 0
  | 0, _, i, hi => absurd hi (Nat.not_lt_zero _)
  | j + 1, hj, i, hi => by
    have h1 := h (j + 1) hj
    rw [if_neg zz12, Nat.add_sub_cancel] at h1
    rcases Nat.lt_or_ge i j with h2 | h2
    · exact UInt64.lt_trans (incF_lt h j zz12 i h2) h1
    · obtain rfl : i = j := by omega
      exact h1
theorem chk_4 {l : Rv} (h : 500 < l.ss.length) : chkR l = 4 := if_pos h
theorem chk_8 {l : Rv} (h : ¬ 500 < l.ss.length) (k : okR l = false) : chkR l = 8 := (if_neg h).trans (if_neg (by simp [k]))
theorem chk_ok {l : Rv} (h : ¬ 500 < l.ss.length) (k : okR l = true) : chkR l = 0 := (if_neg h).trans (if_pos k)
theorem chk_inv {l : Rv} (h : chkR l = 0) : ¬ 500 < l.ss.length ∧ incF l.ss l.ss.length := by
  unfold chkR at h
  split at h
  · cases h
  · rename_i h1
    split at h
    · rename_i h2
      unfold okR at h2
      rw [Bool.and_eq_true, decide_eq_true_eq] at h2
      exact ⟨h1, h2.2⟩
    · cases h
def revV (l : Rv) (s : UInt64) : Bool := decide (chkR l = 0) && decide (s ∈ l.ss)
def Rv.eqv (a b : Rv) : Prop := a.nm = b.nm ∧ a.no = b.no ∧ (a.fr = b.fr ∧ a.tt = b.tt) ∧ a.ss = b.ss ∧ (a.ix = b.ix ∧ a.chs = b.chs ∧ a.ps = b.ps)
instance {a b : Rv} : Decidable (a.eqv b) := by unfold Rv.eqv; exact inferInstance
end Go.Proofs.YtgnablliekgbgaaDoor
namespace Go.Proofs.YtgnablliekgbgaaDoor
open Go Go.PL Go.RowKit
def rotlF (x : UInt32) (k : Int) : UInt32 :=
  sl32 x (((of64 k &&& 31).toNat : Nat) : Int).toNat ||| sr32 x (((32 - (of64 k &&& 31)).toNat : Nat) : Int).toNat
theorem rotl (x : UInt32) (k : Int) (w : World) :
    Calls Tryd.prog 105 [.int .u32 x.toNat, .int .i64 k].toArray w (Pur w (.int .u32 (rotlF x k).toNat)) := by
  refine enter (m := 17) (R := Mem w [] [] []) Tryd.func105 rfl rfl (Nat.le_of_ble_eq_true rfl) (Mem.start w) ?_
  refine wpc_seq <| wpc_region <| wpl_q (q_pure rfl) rfl <| wpl_nil <| ex_then <| wpc_seq <| wpc_region <| wpl_q (q_pure rfl) rfl <| wpl_q (q64_conv Tryd.underlying3 Tryd.underlying100 rfl) rfl ?_
  refine wpl_q (q64_and (b := (31 : UInt64)) rfl rfl) rfl ?_
  refine wpl_q (q_pure rfl) rfl <| wpl_nil <| ex_then <| wpc_seq <| wpc_region <| wpl_q (q_pure rfl) rfl <| wpl_q (q_pure rfl) rfl ?_
  refine wpl_q (q32_shl rfl rfl zz24 _ rfl) rfl ?_
  refine wpl_q (q_pure rfl) rfl <| wpl_q (q_pure rfl) rfl ?_
  refine wpl_q (q64_sub (a := (32 : UInt64)) rfl rfl) rfl ?_
  refine wpl_q (q32_shr rfl rfl zz24 _ rfl) rfl ?_
  refine wpl_q (q32_or rfl rfl) rfl <| wpl_q (q_pure rfl) rfl <| wpl_nil <| ex_then <| wpc_ret ?_
  refine ret1 (.inl rfl) rfl rfl ?_
  exact fun w h => ⟨rfl, h.below⟩
theorem turn (x : UInt32) (k : Int) (h0 : -64 ≤ k) (h1 : k ≤ 64) (w : World) :
    Calls Tryd.prog 103 [.int .u32 x.toNat, .int .i64 k].toArray w (Pur w (.int .u32 (rotlF x (-k)).toNat)) := by
  refine enter (m := 9) (R := Mem w [] [] []) Tryd.func103 rfl rfl (Nat.le_of_ble_eq_true rfl) (Mem.start w) ?_
  refine wpc_seq <| wpc_region <| wpl_q (q_pure rfl) rfl <| wpl_nil <| ex_then <| wpc_seq <| wpc_region <| wpl_q (q_pure rfl) rfl <| wpl_q (q_pure rfl) rfl ?_
  first | refine wpl_q (qop_eq (q_pure rfl) (congrArg (Value.int .i64) (wk_i64 zz12 zz12))) rfl ?_ | refine wpl_q (q_pure rfl) rfl ?_
  refine wpl_t (t_pur Tryd.hb105 rfl fun w h => rotl _ _ _) rfl ?_
  intro b8
  refine wpl_q (q_pure rfl) rfl <| wpl_nil <| ex_then <| wpc_ret ?_
  refine ret1 (.inl rfl) rfl rfl ?_
  exact fun w h => ⟨rfl, h.below⟩
end Go.Proofs.YtgnablliekgbgaaDoor
namespace Go.Proofs.YtgnablliekgbgaaDoor
open Go Go.PL Go.RowKit
def wordF (bs : List UInt8) (i : Nat) : UInt32 :=
  sl32 (of32 (bs.getD (4 * i) 0).toNat) 24 ||| sl32 (of32 (bs.getD (4 * i + 1) 0).toNat) 16 ||| sl32 (of32 (bs.getD (4 * i + 2) 0).toNat) 8 ||| of32 (bs.getD (4 * i + 3) 0).toNat
def mixF (ws : List UInt32) (i : Nat) : UInt32 :=
  (rotlF (ws.getD (i - 2) 0) (-17) ^^^ rotlF (ws.getD (i - 2) 0) (-19) ^^^ sr32 (ws.getD (i - 2) 0) 10) + ws.getD (i - 7) 0 + (rotlF (ws.getD (i - 15) 0) (-7) ^^^ rotlF (ws.getD (i - 15) 0) (-18) ^^^ sr32 (ws.getD (i - 15) 0) 3) + ws.getD (i - 16) 0
def wsF (bs : List UInt8) : Nat → List UInt32
  | 0 => []
  | i + 1 => wsF bs i ++ [if i < 16 then wordF bs i else mixF (wsF bs i) i]
theorem wsF_length (bs : List UInt8) : ∀ i, (wsF bs i).length = i
  | 0 => rfl
  | i + 1 => by simp [wsF, wsF_length bs i]
def stF (bs : List UInt8) (i : Nat) : List UInt32 := wsF bs i ++ List.replicate (64 - i) 0
theorem stF_length (bs : List UInt8) (i : Nat) (h : i ≤ 64) : (stF bs i).length = 64 := by simp [stF, wsF_length]; omega
theorem stF_get (bs : List UInt8) (i j : Nat) (h : j < i) : (stF bs i).getD j 0 = (wsF bs i).getD j 0 := by
  simp only [stF, List.getD_eq_getElem?_getD]; rw [List.getElem?_append_left (by rw [wsF_length]; exact h)]
theorem stF_set (bs : List UInt8) (i : Nat) (h : i < 64) (x : UInt32) (hx : x = if i < 16 then wordF bs i else mixF (wsF bs i) i) : (stF bs i).set i x = stF bs (i + 1) := by
  subst hx
  have e : List.replicate (64 - i) (0 : UInt32) = 0 :: List.replicate (64 - (i + 1)) 0 := by
    rw [show 64 - i = (64 - (i + 1)) + 1 from zz12, List.replicate_succ]
  simp only [stF, e, wsF]
  rw [List.set_append_right _ _ (by rw [wsF_length]; exact Nat.le_refl _), wsF_length, Nat.sub_self]
  simp
theorem mix_st (bs : List UInt8) (i : Nat) (h : 16 ≤ i) : mixF (stF bs i) i = mixF (wsF bs i) i := by
  unfold mixF
  rw [stF_get _ _ _ zz12, stF_get _ _ _ zz12, stF_get _ _ _ zz12, stF_get _ _ _ zz12]
theorem word (bs : List UInt8) (hl : bs.length = 64) (bb i : Nat) (hi : i < 16) (w : World) (hb : CellsAt w.cell? ⟨bb, 0, none⟩ (v8s bs)) :
    Calls Tryd.prog 104 [.pointer (some ⟨bb, 0, none⟩), .int .i64 i].toArray w (Pur w (.int .u32 (wordF bs i).toNat)) := by
  refine enter (m := 42) (R := Mem w [] [] []) Tryd.func104 rfl rfl (Nat.le_of_ble_eq_true rfl) (Mem.start w) ?_
  refine wpc_seq <| wpc_region <| wpl_q (q_pure rfl) rfl <| wpl_nil <| ex_then <| wpc_seq ?_
  refine wpc_draw 38 zz7 (fun _ h => h.drew) ?_
  refine wpd_p 0 rfl zz7 trivial (q_pure rfl) rfl sk0 ?_
  refine wpd_p 1 rfl zz7 trivial (q_pure rfl) rfl sk0 ?_
  first | refine wpd_p 2 rfl zz7 trivial (qop_eq (q_pure rfl) (congrArg (Value.int .i64) (wk_i64 zz12 zz12))) rfl sk0 ?_ | refine wpd_p 2 rfl zz7 trivial (q_pure rfl) rfl sk0 ?_
  refine wpd_p 3 rfl zz7 trivial (q_pure rfl) rfl sk0 ?_
  refine wpd_p 4 rfl zz7 trivial (q_idxA Tryd.underlying170 Tryd.ti5 rfl rfl zz12 zz12 (4 * i) zz12) rfl sk0 ?_
  refine wpd_q 5 rfl zz7 trivial (q_load1 Tryd.underlying5 rfl rfl (fun w h => h.cell_old (hb.at_ (v8s_get zz12)))) rfl (fun _ h => h) ?_
  refine wpd_p 6 rfl zz7 trivial (q32_conv Tryd.underlying5 Tryd.underlying159 rfl) rfl sk0 ?_
  refine wpd_p 7 rfl zz7 trivial (q32_shl rfl rfl zz24 _ rfl) rfl sk0 ?_
  refine wpd_p 8 rfl zz7 trivial (q_pure rfl) rfl sk0 ?_
  refine wpd_p 9 rfl zz7 trivial (q_pure rfl) rfl sk0 ?_
  first | refine wpd_p 10 rfl zz7 trivial (qop_eq (q_pure rfl) (congrArg (Value.int .i64) (wk_i64 zz12 zz12))) rfl sk0 ?_ | refine wpd_p 10 rfl zz7 trivial (q_pure rfl) rfl sk0 ?_
  first | refine wpd_p 11 rfl zz7 trivial (qop_eq (q_pure rfl) (congrArg (Value.int .i64) (wk_i64 zz12 zz12))) rfl sk0 ?_ | refine wpd_p 11 rfl zz7 trivial (q_pure rfl) rfl sk0 ?_
  refine wpd_p 12 rfl zz7 trivial (q_pure rfl) rfl sk0 ?_
  refine wpd_p 13 rfl zz7 trivial (q_idxA Tryd.underlying170 Tryd.ti5 rfl rfl zz12 zz12 (4 * i + 1) zz12) rfl sk0 ?_
  refine wpd_q 14 rfl zz7 trivial (q_load1 Tryd.underlying5 rfl rfl (fun w h => h.cell_old (hb.at_ (v8s_get zz12)))) rfl (fun _ h => h) ?_
  refine wpd_p 15 rfl zz7 trivial (q32_conv Tryd.underlying5 Tryd.underlying159 rfl) rfl sk0 ?_
  refine wpd_p 16 rfl zz7 trivial (q32_shl rfl rfl zz24 _ rfl) rfl sk0 ?_
  refine wpd_p 17 rfl zz7 trivial (q32_or rfl rfl) rfl sk0 ?_
  refine wpd_p 18 rfl zz7 trivial (q_pure rfl) rfl sk0 ?_
  refine wpd_p 19 rfl zz7 trivial (q_pure rfl) rfl sk0 ?_
  first | refine wpd_p 20 rfl zz7 trivial (qop_eq (q_pure rfl) (congrArg (Value.int .i64) (wk_i64 zz12 zz12))) rfl sk0 ?_ | refine wpd_p 20 rfl zz7 trivial (q_pure rfl) rfl sk0 ?_
  first | refine wpd_p 21 rfl zz7 trivial (qop_eq (q_pure rfl) (congrArg (Value.int .i64) (wk_i64 zz12 zz12))) rfl sk0 ?_ | refine wpd_p 21 rfl zz7 trivial (q_pure rfl) rfl sk0 ?_
  refine wpd_p 22 rfl zz7 trivial (q_pure rfl) rfl sk0 ?_
  refine wpd_p 23 rfl zz7 trivial (q_idxA Tryd.underlying170 Tryd.ti5 rfl rfl zz12 zz12 (4 * i + 2) zz12) rfl sk0 ?_
  refine wpd_q 24 rfl zz7 trivial (q_load1 Tryd.underlying5 rfl rfl (fun w h => h.cell_old (hb.at_ (v8s_get zz12)))) rfl (fun _ h => h) ?_
  refine wpd_p 25 rfl zz7 trivial (q32_conv Tryd.underlying5 Tryd.underlying159 rfl) rfl sk0 ?_
  refine wpd_p 26 rfl zz7 trivial (q32_shl rfl rfl zz24 _ rfl) rfl sk0 ?_
  refine wpd_p 27 rfl zz7 trivial (q32_or rfl rfl) rfl sk0 ?_
  refine wpd_p 28 rfl zz7 trivial (q_pure rfl) rfl sk0 ?_
  refine wpd_p 29 rfl zz7 trivial (q_pure rfl) rfl sk0 ?_
  first | refine wpd_p 30 rfl zz7 trivial (qop_eq (q_pure rfl) (congrArg (Value.int .i64) (wk_i64 zz12 zz12))) rfl sk0 ?_ | refine wpd_p 30 rfl zz7 trivial (q_pure rfl) rfl sk0 ?_
  first | refine wpd_p 31 rfl zz7 trivial (qop_eq (q_pure rfl) (congrArg (Value.int .i64) (wk_i64 zz12 zz12))) rfl sk0 ?_ | refine wpd_p 31 rfl zz7 trivial (q_pure rfl) rfl sk0 ?_
  refine wpd_p 32 rfl zz7 trivial (q_pure rfl) rfl sk0 ?_
  refine wpd_p 33 rfl zz7 trivial (q_idxA Tryd.underlying170 Tryd.ti5 rfl rfl zz12 zz12 (4 * i + 3) zz12) rfl sk0 ?_
  refine wpd_q 34 rfl zz7 trivial (q_load1 Tryd.underlying5 rfl rfl (fun w h => h.cell_old (hb.at_ (v8s_get zz12)))) rfl (fun _ h => h) ?_
  refine wpd_p 35 rfl zz7 trivial (q32_conv Tryd.underlying5 Tryd.underlying159 rfl) rfl sk0 ?_
  refine wpd_p 36 rfl zz7 trivial (q32_or rfl rfl) rfl sk0 ?_
  refine wpd_p 37 rfl zz7 trivial (q_pure rfl) rfl sk0 ?_
  refine wpd_done zz7 ?_
  refine ex_then <| wpc_ret ?_
  refine ret1 (.inl rfl) rfl rfl ?_
  exact fun w h => ⟨rfl, h.below⟩
theorem schedule (bs : List UInt8) (hl : bs.length = 64) (bb : Nat) (w : World) (hb : CellsAt w.cell? ⟨bb, 0, none⟩ (v8s bs)) :
    Calls Tryd.prog 102 [.pointer (some ⟨bb, 0, none⟩)].toArray w (Pur w (.agg (v32s (wsF bs 64)).toArray)) := by
  refine enter (m := 56) (R := Mem w [] [] []) Tryd.func102 rfl rfl (Nat.le_of_ble_eq_true rfl) (Mem.start w) ?_
  refine wpc_seq <| wpc_region ?_
  refine wpl_t (t_alloc Tryd.ti173 (v32s (List.replicate 64 0)) (by rfl)) rfl ?_
  intro b2
  refine wpl_nil <| ex_then <| wpc_seq <| wpc_region ?_
  refine wpl_t (t_alloc Tryd.ti173 (v32s (stF bs 0)) (by rfl)) rfl ?_
  intro b3
  refine wpl_nil <| ex_then <| wpc_seq <| wpc_seq <| wpc_region <| wpl_q (q_pure rfl) rfl <| wpl_nil <| ex_then <| wpc_block ?_
  refine wpc_loop (ι := { i : Nat // i ≤ 64 }) (fun i => [(7, .int .i64 (i.1 : Nat)), (3, .pointer (some ⟨b3, 0, none⟩)), (2, .pointer (some ⟨b2, 0, none⟩)), (0, .pointer (some ⟨bb, 0, none⟩))]) (fun i => Mem w [] [.blk b3 173 (v32s (stF bs i.1)), .blk b2 173 (v32s (List.replicate 64 0))] []) (fun i => 64 - i.1) ⟨0, zz12⟩ ?_ ?_ ?_
  · exact by repeat (first | exact trivial | refine ⟨rfl, ?_⟩)
  · exact fun w h => h
  · rintro ⟨i, hi⟩; dsimp only
    have hsl := stF_length bs i hi
    refine wpc_seq <| wpc_region <| wpl_q (q_pure rfl) rfl <| wpl_nil <| ex_then <| wpc_seq ?_
    refine wpc_cond rfl (fun hc8 => ?_) (fun hc8 => ?_)
    ·
      simp only [decide_eq_true_eq, decide_eq_false_iff_not, Bool.and_eq_true, Bool.or_eq_true, beq_iff_eq, bne_iff_ne, ne_eq] at hc8
      refine wpc_skip <| ex_then <| wpc_seq <| wpc_block <| wpc_seq <| wpc_region <| wpl_q (q_pure rfl) rfl <| wpl_q (q_pure rfl) rfl <| wpl_nil <| ex_then <| wpc_seq <| wpc_seq ?_
      refine wpc_region <| wpl_q (q_pure rfl) rfl <| wpl_q (q_pure rfl) rfl <| wpl_nil <| ex_then ?_
      refine wpc_cond rfl (fun hc11 => ?_) (fun hc11 => ?_)
      ·
        simp only [decide_eq_true_eq, decide_eq_false_iff_not, Bool.and_eq_true, Bool.or_eq_true, beq_iff_eq, bne_iff_ne, ne_eq] at hc11
        refine wpc_seq <| wpc_region <| wpl_q (q_pure rfl) rfl <| wpl_q (q_pure rfl) rfl <| wpl_q (q_pure rfl) rfl ?_
        refine wpl_t (t_pur Tryd.hb104 rfl fun w' h => word bs hl bb i zz12 w' (hb.mono fun _ _ hv => h.cell_old hv)) rfl ?_
        intro b15
        refine wpl_q (q_idxA Tryd.underlying173 Tryd.ti159 rfl rfl zz12 zz12 (i) zz12) rfl ?_
        refine wpl_t0 (t_st1 Tryd.ti159 rfl rfl rfl zz36 _ (by first | exact v32s_set _ | rfl)) ?_
        intro _
        refine wpl_nil <| ex_then ?_
        refine wpc_exit ?_
        refine ex_then_exit ?_
        refine ex_block_hit ?_
        refine ex_then <| wpc_region ?_
        first | refine wpl_q (qop_eq (q_pure rfl) (congrArg (Value.int .i64) (wk_i64 zz12 zz12))) rfl ?_ | refine wpl_q (q_pure rfl) rfl ?_
        refine wpl_q (q_pure rfl) rfl <| wpl_nil ?_
        refine ex_again ⟨i + 1, zz12⟩ ?_ ?_ ?_
        · exact zz9
        · exact fun w h => by
            first
            | exact (stF_set bs i zz12 _ (by rw [if_pos zz12])) ▸ h
            | exact (stF_set bs i zz12 _ ((mix_st bs i zz12).trans (by rw [if_neg zz12]))) ▸ h
        · show 64 - (i + 1) < 64 - i; omega
      ·
        simp only [decide_eq_true_eq, decide_eq_false_iff_not, Bool.and_eq_true, Bool.or_eq_true, beq_iff_eq, bne_iff_ne, ne_eq] at hc11
        refine wpc_skip <| ex_then <| wpc_seq ?_
        refine wpc_draw 10 zz7 (fun _ h => h.drew) ?_
        refine wpd_p 0 rfl zz7 trivial (q_pure rfl) rfl sk0 ?_
        first | refine wpd_p 1 rfl zz7 trivial (qop_eq (q_pure rfl) (congrArg (Value.int .i64) (wk_i64 zz12 zz12))) rfl sk0 ?_ | refine wpd_p 1 rfl zz7 trivial (q_pure rfl) rfl sk0 ?_
        refine wpd_p 2 rfl zz7 trivial (q_idxA Tryd.underlying173 Tryd.ti159 rfl rfl zz12 zz12 (i - 15) zz12) rfl sk0 ?_
        refine wpd_q 3 rfl zz7 trivial (q_ld Tryd.underlying159 rfl rfl zz25) rfl (fun _ h => h) ?_
        refine wpd_p 4 rfl zz7 trivial (q_pure rfl) rfl sk0 ?_
        first | refine wpd_p 5 rfl zz7 trivial (qop_eq (q_pure rfl) (congrArg (Value.int .i64) (wk_i64 zz12 zz12))) rfl sk0 ?_ | refine wpd_p 5 rfl zz7 trivial (q_pure rfl) rfl sk0 ?_
        refine wpd_p 6 rfl zz7 trivial (q_idxA Tryd.underlying173 Tryd.ti159 rfl rfl zz12 zz12 (i - 2) zz12) rfl sk0 ?_
        refine wpd_q 7 rfl zz7 trivial (q_ld Tryd.underlying159 rfl rfl zz25) rfl (fun _ h => h) ?_
        refine wpd_p 8 rfl zz7 trivial (q_pure rfl) rfl sk0 ?_
        refine wpd_p 9 rfl zz7 trivial (q_pure rfl) rfl sk0 ?_
        refine wpd_done zz7 ?_
        refine ex_then ?_
        refine wpc_draw 29 zz7 (fun _ h => h.drew) ?_
        refine wpd_p 0 rfl zz7 trivial (q_pure rfl) rfl sk0 ?_
        refine wpd_p 1 rfl zz7 trivial (q_pure rfl) rfl sk0 ?_
        refine wpd_p 3 rfl zz7 trivial (q_pure rfl) rfl sk0 ?_
        refine wpd_p 6 rfl zz7 trivial (q_pure rfl) rfl sk0 ?_
        refine wpd_p 7 rfl zz7 trivial (q32_shr rfl rfl zz24 _ rfl) rfl sk0 ?_
        refine wpd_p 9 rfl zz7 trivial (q_pure rfl) rfl sk0 ?_
        first | refine wpd_p 10 rfl zz7 trivial (qop_eq (q_pure rfl) (congrArg (Value.int .i64) (wk_i64 zz12 zz12))) rfl sk0 ?_ | refine wpd_p 10 rfl zz7 trivial (q_pure rfl) rfl sk0 ?_
        refine wpd_p 11 rfl zz7 trivial (q_idxA Tryd.underlying173 Tryd.ti159 rfl rfl zz12 zz12 (i - 7) zz12) rfl sk0 ?_
        refine wpd_q 12 rfl zz7 trivial (q_ld Tryd.underlying159 rfl rfl zz25) rfl (fun _ h => h) ?_
        refine wpd_p 14 rfl zz7 trivial (q_pure rfl) rfl sk0 ?_
        refine wpd_p 16 rfl zz7 trivial (q_pure rfl) rfl sk0 ?_
        refine wpd_p 19 rfl zz7 trivial (q_pure rfl) rfl sk0 ?_
        refine wpd_p 20 rfl zz7 trivial (q32_shr rfl rfl zz24 _ rfl) rfl sk0 ?_
        refine wpd_p 23 rfl zz7 trivial (q_pure rfl) rfl sk0 ?_
        first | refine wpd_p 24 rfl zz7 trivial (qop_eq (q_pure rfl) (congrArg (Value.int .i64) (wk_i64 zz12 zz12))) rfl sk0 ?_ | refine wpd_p 24 rfl zz7 trivial (q_pure rfl) rfl sk0 ?_
        refine wpd_p 25 rfl zz7 trivial (q_idxA Tryd.underlying173 Tryd.ti159 rfl rfl zz12 zz12 (i - 16) zz12) rfl sk0 ?_
        refine wpd_q 26 rfl zz7 trivial (q_ld Tryd.underlying159 rfl rfl zz25) rfl (fun _ h => h) ?_
        refine wpd_t 2 rfl zz7 trivial (t_pur Tryd.hb103 rfl fun w h => turn _ _ zz19 zz19 _) rfl (fun _ => sk0) ?_
        intro b27
        refine wpd_t 4 rfl zz7 trivial (t_pur Tryd.hb103 rfl fun w h => turn _ _ zz19 zz19 _) rfl (fun _ => sk0) ?_
        intro b29
        refine wpd_p 5 rfl zz7 trivial (q32_xor rfl rfl) rfl sk0 ?_
        refine wpd_p 8 rfl zz7 trivial (q32_xor rfl rfl) rfl sk0 ?_
        refine wpd_p 13 rfl zz7 trivial (q32_add rfl rfl) rfl sk0 ?_
        refine wpd_t 15 rfl zz7 trivial (t_pur Tryd.hb103 rfl fun w h => turn _ _ zz19 zz19 _) rfl (fun _ => sk0) ?_
        intro b40
        refine wpd_t 17 rfl zz7 trivial (t_pur Tryd.hb103 rfl fun w h => turn _ _ zz19 zz19 _) rfl (fun _ => sk0) ?_
        intro b42
        refine wpd_p 18 rfl zz7 trivial (q32_xor rfl rfl) rfl sk0 ?_
        refine wpd_p 21 rfl zz7 trivial (q32_xor rfl rfl) rfl sk0 ?_
        refine wpd_p 22 rfl zz7 trivial (q32_add rfl rfl) rfl sk0 ?_
        refine wpd_p 27 rfl zz7 trivial (q32_add rfl rfl) rfl sk0 ?_
        refine wpd_p 28 rfl zz7 trivial (q_idxA Tryd.underlying173 Tryd.ti159 rfl rfl zz12 zz12 (i) zz12) rfl sk0 ?_
        refine wpd_t0 29 rfl zz7 trivial (t_st1 Tryd.ti159 rfl rfl rfl zz36 _ (by first | exact v32s_set _ | rfl)) (fun _ => skk rfl) ?_
        intro _
        refine wpd_done zz7 ?_
        refine ex_block <| ex_then <| wpc_region ?_
        first | refine wpl_q (qop_eq (q_pure rfl) (congrArg (Value.int .i64) (wk_i64 zz12 zz12))) rfl ?_ | refine wpl_q (q_pure rfl) rfl ?_
        refine wpl_q (q_pure rfl) rfl <| wpl_nil ?_
        refine ex_again ⟨i + 1, zz12⟩ ?_ ?_ ?_
        · exact zz9
        · exact fun w h => by
            first
            | exact (stF_set bs i zz12 _ (by rw [if_pos zz12])) ▸ h
            | exact (stF_set bs i zz12 _ ((mix_st bs i zz12).trans (by rw [if_neg zz12]))) ▸ h
        · show 64 - (i + 1) < 64 - i; omega
    ·
      simp only [decide_eq_true_eq, decide_eq_false_iff_not, Bool.and_eq_true, Bool.or_eq_true, beq_iff_eq, bne_iff_ne, ne_eq] at hc8
      refine wpc_exit ?_
      refine ex_then_exit ?_
      refine ex_then_exit ?_
      refine ex_block_hit ?_
      refine ex_then <| wpc_seq <| wpc_region ?_
      refine wpl_q (q_ldN Tryd.underlying173 rfl Tryd.ti173 rfl zz22) rfl ?_
      refine wpl_t0 (t_stA Tryd.ti173 rfl rfl zz22 (v32s_one _) zz22) ?_
      intro _
      refine wpl_nil <| ex_then <| wpc_ret ?_
      refine retv1 (.inl rfl) rfl (rv_agg Tryd.underlying173 rfl Tryd.ti173 rfl (fun w h => h.cells_blk zz4) zz22) ?_
      have e : stF bs 64 = wsF bs 64 := by simp [stF]
      obtain rfl : i = 64 := by omega
      exact fun w h => ⟨by rw [e], h.below⟩
end Go.Proofs.YtgnablliekgbgaaDoor
namespace Go.Proofs.YtgnablliekgbgaaDoor
open Go Go.PL Go.RowKit
def rootsL : List UInt32 := [1116352408, 1899447441, 3049323471, 3921009573, 961987163, 1508970993, 2453635748, 2870763221, 3624381080, 310598401, 607225278, 1426881987, 1925078388, 2162078206, 2614888103, 3248222580, 3835390401, 4022224774, 264347078, 604807628, 770255983, 1249150122, 1555081692, 1996064986, 2554220882, 2821834349, 2952996808, 3210313671, 3336571891, 3584528711, 113926993, 338241895, 666307205, 773529912, 1294757372, 1396182291, 1695183700, 1986661051, 2177026350, 2456956037, 2730485921, 2820302411, 3259730800, 3345764771, 3516065817, 3600352804, 4094571909, 275423344, 430227734, 506948616, 659060556, 883997877, 958139571, 1322822218, 1537002063, 1747873779, 1955562222, 2024104815, 2227730452, 2361852424, 2428436474, 2756734187, 3204031479, 3329325298]
theorem rootsL_length : rootsL.length = 64 := rfl
def tF (k w : UInt32) (r : List UInt32) : UInt32 :=
  r.getD 7 0 + (rotlF (r.getD 4 0) (-6) ^^^ rotlF (r.getD 4 0) (-11) ^^^ rotlF (r.getD 4 0) (-25)) + ((r.getD 4 0 &&& r.getD 5 0) ^^^ (~~~ r.getD 4 0 &&& r.getD 6 0)) + k + w
def uF (r : List UInt32) : UInt32 :=
  (rotlF (r.getD 0 0) (-2) ^^^ rotlF (r.getD 0 0) (-13) ^^^ rotlF (r.getD 0 0) (-22)) + ((r.getD 0 0 &&& r.getD 1 0) ^^^ (r.getD 0 0 &&& r.getD 2 0) ^^^ (r.getD 1 0 &&& r.getD 2 0))
def roundF (k w : UInt32) (r : List UInt32) : List UInt32 :=
  [tF k w r + uF r, r.getD 0 0, r.getD 1 0, r.getD 2 0, r.getD 3 0 + tF k w r, r.getD 4 0, r.getD 5 0, r.getD 6 0]
def roundsF (ws st : List UInt32) : Nat → List UInt32
  | 0 => st
  | i + 1 => roundF (rootsL.getD i 0) (ws.getD i 0) (roundsF ws st i)
theorem roundsF_length (ws st : List UInt32) (h : st.length = 8) : ∀ i, (roundsF ws st i).length = 8
  | 0 => h
  | i + 1 => rfl
def sumN (st r : List UInt32) : Nat → List UInt32
  | 0 => st
  | i + 1 => (sumN st r i).set i ((sumN st r i).getD i 0 + r.getD i 0)
theorem sumN_length (st r : List UInt32) : ∀ i, (sumN st r i).length = st.length
  | 0 => rfl
  | i + 1 => by simp [sumN, sumN_length st r i]
def addF (st : List UInt32) (bs : List UInt8) : List UInt32 := sumN st (roundsF (wsF bs 64) st 64) 8
theorem addF_length (st : List UInt32) (bs : List UInt8) : (addF st bs).length = st.length := sumN_length _ _ _
theorem add (sb bb : Nat) (st : List UInt32) (bs : List UInt8) (hst : st.length = 8) (hbs : bs.length = 64) (w : World) (hs : w.heap[sb]? = some (.cells (v32s st).toArray 162 (0, 0))) (hb : CellsAt w.cell? ⟨bb, 0, none⟩ (v8s bs)) (hne : bb ≠ sb) (hro : CellsAt w.cell? ⟨0, 0, none⟩ (v32s rootsL)) (h0 : 0 ≠ sb) :
    Calls Tryd.prog 99 [.pointer (some ⟨sb, 0, none⟩), .pointer (some ⟨bb, 0, none⟩)].toArray w (GivesL w [sb] (fun _ : Unit => .tuple #[]) fun _ => [.blk sb 162 (v32s (addF st bs))]) := by
  refine enter (m := 111) (R := Mem w [sb] [.blk sb 162 (v32s st)] []) Tryd.func99 rfl rfl (Nat.le_of_ble_eq_true rfl) (Mem.start1 w hs) ?_
  refine wpc_seq <| wpc_region <| wpl_q (q_pure rfl) rfl <| wpl_q (q_pure rfl) rfl ?_
  refine wpl_q (q_ldN Tryd.underlying162 rfl Tryd.ti162 rfl zz22) rfl ?_
  refine wpl_t (t_alloc Tryd.ti162 _ rfl) rfl ?_
  intro b4
  refine wpl_t0 (t_stA Tryd.ti162 rfl rfl zz22 (v32s_one _) zz22) ?_
  intro _
  refine wpl_nil <| ex_then <| wpc_seq <| wpc_seq <| wpc_region <| wpl_q (q_pure rfl) rfl ?_
  refine wpl_t (t_pur Tryd.hb102 rfl fun w' h => schedule bs hbs bb w' (h.at_oldL hb (by simpa using hne))) rfl ?_
  intro b16
  refine wpl_q (q_pure rfl) rfl <| wpl_nil <| ex_then <| wpc_block ?_
  refine wpc_loop (ι := { i : Nat // i ≤ 64 }) (fun i => [(17, .int .i64 (i.1 : Nat)), (16, .agg (v32s (wsF bs 64)).toArray), (4, .pointer (some ⟨b4, 0, none⟩)), (0, .pointer (some ⟨sb, 0, none⟩))]) (fun i => Mem w [sb] [.blk b4 162 (v32s (roundsF (wsF bs 64) st i.1)), .blk sb 162 (v32s st)] []) (fun i => 64 - i.1) ⟨0, zz12⟩ ?_ ?_ ?_
  · exact by repeat (first | exact trivial | refine ⟨rfl, ?_⟩)
  · exact fun w h => h
  · rintro ⟨i, hi⟩; dsimp only
    have hrl := roundsF_length (wsF bs 64) st hst i
    have hwl := wsF_length bs 64
    refine wpc_seq <| wpc_region <| wpl_q (q_pure rfl) rfl <| wpl_nil <| ex_then <| wpc_seq ?_
    refine wpc_cond rfl (fun hc18 => ?_) (fun hc18 => ?_)
    ·
      simp only [decide_eq_true_eq, decide_eq_false_iff_not, Bool.and_eq_true, Bool.or_eq_true, beq_iff_eq, bne_iff_ne, ne_eq] at hc18
      refine wpc_skip <| ex_then <| wpc_seq <| wpc_block <| wpc_seq <| wpc_region <| wpl_q (q_pure rfl) rfl ?_
      refine wpl_q (q_idxV Tryd.underlying173 Tryd.ti159 Tryd.underlying159 rfl rfl rfl zz12 zz12 (i) zz12 zz25) rfl ?_
      refine wpl_q (q_pure rfl) rfl <| wpl_q (q_pure rfl) rfl <| wpl_nil <| ex_then <| wpc_seq ?_
      refine wpc_draw 6 zz7 (fun _ h => h.drew) ?_
      refine wpd_p 0 rfl zz7 trivial (q_idxA Tryd.underlying162 Tryd.ti159 rfl rfl zz12 zz12 0 rfl) rfl sk0 ?_
      refine wpd_q 1 rfl zz7 trivial (q_ld Tryd.underlying159 rfl rfl zz25) rfl (fun _ h => h) ?_
      refine wpd_p 2 rfl zz7 trivial (q_idxA Tryd.underlying162 Tryd.ti159 rfl rfl zz12 zz12 4 rfl) rfl sk0 ?_
      refine wpd_q 3 rfl zz7 trivial (q_ld Tryd.underlying159 rfl rfl zz25) rfl (fun _ h => h) ?_
      refine wpd_p 4 rfl zz7 trivial (q_pure rfl) rfl sk0 ?_
      refine wpd_p 5 rfl zz7 trivial (q_pure rfl) rfl sk0 ?_
      refine wpd_done zz7 ?_
      refine ex_then <| wpc_seq ?_
      refine wpc_draw 29 zz7 (fun _ h => h.drew) ?_
      refine wpd_p 0 rfl zz7 trivial (q_idxA Tryd.underlying162 Tryd.ti159 rfl rfl zz12 zz12 7 rfl) rfl sk0 ?_
      refine wpd_q 1 rfl zz7 trivial (q_ld Tryd.underlying159 rfl rfl zz25) rfl (fun _ h => h) ?_
      refine wpd_p 2 rfl zz7 trivial (q_pure rfl) rfl sk0 ?_
      refine wpd_p 4 rfl zz7 trivial (q_pure rfl) rfl sk0 ?_
      refine wpd_p 7 rfl zz7 trivial (q_pure rfl) rfl sk0 ?_
      refine wpd_p 11 rfl zz7 trivial (q_pure rfl) rfl sk0 ?_
      refine wpd_p 12 rfl zz7 trivial (q_idxA Tryd.underlying162 Tryd.ti159 rfl rfl zz12 zz12 5 rfl) rfl sk0 ?_
      refine wpd_q 13 rfl zz7 trivial (q_ld Tryd.underlying159 rfl rfl zz25) rfl (fun _ h => h) ?_
      refine wpd_p 14 rfl zz7 trivial (q32_and rfl rfl) rfl sk0 ?_
      refine wpd_p 15 rfl zz7 trivial (q_pure rfl) rfl sk0 ?_
      refine wpd_p 16 rfl zz7 trivial (q32_not rfl) rfl sk0 ?_
      refine wpd_p 17 rfl zz7 trivial (q_idxA Tryd.underlying162 Tryd.ti159 rfl rfl zz12 zz12 6 rfl) rfl sk0 ?_
      refine wpd_q 18 rfl zz7 trivial (q_ld Tryd.underlying159 rfl rfl zz25) rfl (fun _ h => h) ?_
      refine wpd_p 19 rfl zz7 trivial (q32_and rfl rfl) rfl sk0 ?_
      refine wpd_p 20 rfl zz7 trivial (q32_xor rfl rfl) rfl sk0 ?_
      refine wpd_p 22 rfl zz7 trivial (q_pure rfl) rfl sk0 ?_
      refine wpd_p 23 rfl zz7 trivial (q_idxA Tryd.underlying173 Tryd.ti159 rfl rfl zz12 zz12 (i) zz12) rfl sk0 ?_
      refine wpd_q 24 rfl zz7 trivial (q_load1 Tryd.underlying159 rfl rfl (fun w h => h.cell_oldL (hro.at_ (v32s_get (by rw [rootsL_length]; omega))) (by simpa using h0))) rfl (fun _ h => h) ?_
      refine wpd_p 26 rfl zz7 trivial (q_pure rfl) rfl sk0 ?_
      refine wpd_t 3 rfl zz7 trivial (t_pur Tryd.hb103 rfl fun w h => turn _ _ zz19 zz19 _) rfl (fun _ => sk0) ?_
      intro b28
      refine wpd_t 5 rfl zz7 trivial (t_pur Tryd.hb103 rfl fun w h => turn _ _ zz19 zz19 _) rfl (fun _ => sk0) ?_
      intro b30
      refine wpd_p 6 rfl zz7 trivial (q32_xor rfl rfl) rfl sk0 ?_
      refine wpd_t 8 rfl zz7 trivial (t_pur Tryd.hb103 rfl fun w h => turn _ _ zz19 zz19 _) rfl (fun _ => sk0) ?_
      intro b33
      refine wpd_p 9 rfl zz7 trivial (q32_xor rfl rfl) rfl sk0 ?_
      refine wpd_p 10 rfl zz7 trivial (q32_add rfl rfl) rfl sk0 ?_
      refine wpd_p 21 rfl zz7 trivial (q32_add rfl rfl) rfl sk0 ?_
      refine wpd_p 25 rfl zz7 trivial (q32_add rfl rfl) rfl sk0 ?_
      refine wpd_p 27 rfl zz7 trivial (q32_add rfl rfl) rfl sk0 ?_
      refine wpd_p 28 rfl zz7 trivial (q_pure rfl) rfl sk0 ?_
      refine wpd_done zz7 ?_
      refine ex_then <| wpc_seq ?_
      refine wpc_draw 25 zz7 (fun _ h => h.drew) ?_
      refine wpd_p 0 rfl zz7 trivial (q_pure rfl) rfl sk0 ?_
      refine wpd_p 2 rfl zz7 trivial (q_pure rfl) rfl sk0 ?_
      refine wpd_p 5 rfl zz7 trivial (q_pure rfl) rfl sk0 ?_
      refine wpd_p 8 rfl zz7 trivial (q_pure rfl) rfl sk0 ?_
      refine wpd_p 9 rfl zz7 trivial (q_idxA Tryd.underlying162 Tryd.ti159 rfl rfl zz12 zz12 1 rfl) rfl sk0 ?_
      refine wpd_q 10 rfl zz7 trivial (q_ld Tryd.underlying159 rfl rfl zz25) rfl (fun _ h => h) ?_
      refine wpd_p 11 rfl zz7 trivial (q32_and rfl rfl) rfl sk0 ?_
      refine wpd_p 12 rfl zz7 trivial (q_pure rfl) rfl sk0 ?_
      refine wpd_p 13 rfl zz7 trivial (q_idxA Tryd.underlying162 Tryd.ti159 rfl rfl zz12 zz12 2 rfl) rfl sk0 ?_
      refine wpd_q 14 rfl zz7 trivial (q_ld Tryd.underlying159 rfl rfl zz25) rfl (fun _ h => h) ?_
      refine wpd_p 15 rfl zz7 trivial (q32_and rfl rfl) rfl sk0 ?_
      refine wpd_p 16 rfl zz7 trivial (q32_xor rfl rfl) rfl sk0 ?_
      refine wpd_p 17 rfl zz7 trivial (q_idxA Tryd.underlying162 Tryd.ti159 rfl rfl zz12 zz12 1 rfl) rfl sk0 ?_
      refine wpd_q 18 rfl zz7 trivial (q_ld Tryd.underlying159 rfl rfl zz25) rfl (fun _ h => h) ?_
      refine wpd_p 19 rfl zz7 trivial (q_idxA Tryd.underlying162 Tryd.ti159 rfl rfl zz12 zz12 2 rfl) rfl sk0 ?_
      refine wpd_q 20 rfl zz7 trivial (q_ld Tryd.underlying159 rfl rfl zz25) rfl (fun _ h => h) ?_
      refine wpd_p 21 rfl zz7 trivial (q32_and rfl rfl) rfl sk0 ?_
      refine wpd_p 22 rfl zz7 trivial (q32_xor rfl rfl) rfl sk0 ?_
      refine wpd_t 1 rfl zz7 trivial (t_pur Tryd.hb103 rfl fun w h => turn _ _ zz19 zz19 _) rfl (fun _ => sk0) ?_
      intro b54
      refine wpd_t 3 rfl zz7 trivial (t_pur Tryd.hb103 rfl fun w h => turn _ _ zz19 zz19 _) rfl (fun _ => sk0) ?_
      intro b56
      refine wpd_p 4 rfl zz7 trivial (q32_xor rfl rfl) rfl sk0 ?_
      refine wpd_t 6 rfl zz7 trivial (t_pur Tryd.hb103 rfl fun w h => turn _ _ zz19 zz19 _) rfl (fun _ => sk0) ?_
      intro b59
      refine wpd_p 7 rfl zz7 trivial (q32_xor rfl rfl) rfl sk0 ?_
      refine wpd_p 23 rfl zz7 trivial (q32_add rfl rfl) rfl sk0 ?_
      refine wpd_p 24 rfl zz7 trivial (q_pure rfl) rfl sk0 ?_
      refine wpd_done zz7 ?_
      refine ex_then <| wpc_region <| wpl_q (q_pure rfl) rfl <| wpl_q (q_pure rfl) rfl <| wpl_q (q32_add rfl rfl) rfl <| wpl_q (q_pure rfl) rfl ?_
      refine wpl_q (q_idxA Tryd.underlying162 Tryd.ti159 rfl rfl zz12 zz12 1 rfl) rfl ?_
      refine wpl_q (q_ld Tryd.underlying159 rfl rfl zz25) rfl ?_
      refine wpl_q (q_idxA Tryd.underlying162 Tryd.ti159 rfl rfl zz12 zz12 2 rfl) rfl ?_
      refine wpl_q (q_ld Tryd.underlying159 rfl rfl zz25) rfl ?_
      refine wpl_q (q_idxA Tryd.underlying162 Tryd.ti159 rfl rfl zz12 zz12 3 rfl) rfl ?_
      refine wpl_q (q_ld Tryd.underlying159 rfl rfl zz25) rfl ?_
      refine wpl_q (q_pure rfl) rfl <| wpl_q (q32_add rfl rfl) rfl <| wpl_q (q_pure rfl) rfl ?_
      refine wpl_q (q_idxA Tryd.underlying162 Tryd.ti159 rfl rfl zz12 zz12 5 rfl) rfl ?_
      refine wpl_q (q_ld Tryd.underlying159 rfl rfl zz25) rfl ?_
      refine wpl_q (q_idxA Tryd.underlying162 Tryd.ti159 rfl rfl zz12 zz12 6 rfl) rfl ?_
      refine wpl_q (q_ld Tryd.underlying159 rfl rfl zz25) rfl ?_
      refine wpl_q (q_buildFull (v32s (roundF (rootsL.getD i 0) ((wsF bs 64).getD i 0) (roundsF (wsF bs 64) st i))) Tryd.underlying162 Tryd.ti162 Tryd.ti159 rfl rfl (v32s_one _) rfl) rfl ?_
      refine wpl_t0 (t_stA Tryd.ti162 rfl rfl (v32s_length _) (v32s_one _) ((v32s_length _).trans hrl)) ?_
      intro _
      refine wpl_nil <| ex_block <| ex_then <| wpc_region ?_
      first | refine wpl_q (qop_eq (q_pure rfl) (congrArg (Value.int .i64) (wk_i64 zz12 zz12))) rfl ?_ | refine wpl_q (q_pure rfl) rfl ?_
      refine wpl_q (q_pure rfl) rfl <| wpl_nil ?_
      refine ex_again ⟨i + 1, zz12⟩ ?_ ?_ ?_
      · exact zz9
      · exact fun w h => h
      · show 64 - (i + 1) < 64 - i; omega
    ·
      simp only [decide_eq_false_iff_not] at hc18
      obtain rfl : i = 64 := by omega
      have hrl := roundsF_length (wsF bs 64) st hst 64
      refine wpc_exit ?_
      refine ex_then_exit ?_
      refine ex_then_exit ?_
      refine ex_block_hit ?_
      refine ex_then <| wpc_seq <| wpc_region <| wpl_q (q_pure rfl) rfl <| wpl_nil <| ex_then <| wpc_block ?_
      refine wpc_loop (ι := { j : Nat // j ≤ 8 }) (fun i => [(96, .int .i64 (i.1 : Nat)), (4, .pointer (some ⟨b4, 0, none⟩)), (0, .pointer (some ⟨sb, 0, none⟩))]) (fun j => Mem w [sb] [.blk b4 162 (v32s (roundsF (wsF bs 64) st 64)), .blk sb 162 (v32s (sumN st (roundsF (wsF bs 64) st 64) j.1))] []) (fun j => 8 - j.1) ⟨0, zz12⟩ ?_ ?_ ?_
      · exact by repeat (first | exact trivial | refine ⟨rfl, ?_⟩)
      · exact fun w h => h
      · rintro ⟨j, hj⟩; dsimp only
        have hsl := (sumN_length st (roundsF (wsF bs 64) st 64) j).trans hst
        refine wpc_seq <| wpc_region <| wpl_q (q_pure rfl) rfl <| wpl_nil <| ex_then <| wpc_seq ?_
        refine wpc_cond rfl (fun hc97 => ?_) (fun hc97 => ?_)
        ·
          simp only [decide_eq_true_eq, decide_eq_false_iff_not, Bool.and_eq_true, Bool.or_eq_true, beq_iff_eq, bne_iff_ne, ne_eq] at hc97
          refine wpc_skip <| ex_then <| wpc_seq <| wpc_block <| wpc_seq <| wpc_region <| wpl_q (q_pure rfl) rfl <| wpl_q (q_pure rfl) rfl <| wpl_nil <| ex_then ?_
          refine wpc_draw 11 zz7 (fun _ h => h.drew) ?_
          refine wpd_p 0 rfl zz7 trivial (q_pure rfl) rfl sk0 ?_
          refine wpd_p 1 rfl zz7 trivial (q_pure rfl) rfl sk0 ?_
          refine wpd_p 2 rfl zz7 trivial (q_pure rfl) rfl sk0 ?_
          refine wpd_p 3 rfl zz7 trivial (q_idxA Tryd.underlying162 Tryd.ti159 rfl rfl zz12 zz12 (j) zz12) rfl sk0 ?_
          refine wpd_q 4 rfl zz7 trivial (q_ld Tryd.underlying159 rfl rfl zz25) rfl (fun _ h => h) ?_
          refine wpd_p 5 rfl zz7 trivial (q_pure rfl) rfl sk0 ?_
          refine wpd_p 6 rfl zz7 trivial (q_idxA Tryd.underlying162 Tryd.ti159 rfl rfl zz12 zz12 (j) zz12) rfl sk0 ?_
          refine wpd_q 7 rfl zz7 trivial (q_ld Tryd.underlying159 rfl rfl zz25) rfl (fun _ h => h) ?_
          refine wpd_p 8 rfl zz7 trivial (q32_add rfl rfl) rfl sk0 ?_
          refine wpd_p 9 rfl zz7 trivial (q_pure rfl) rfl sk0 ?_
          refine wpd_p 10 rfl zz7 trivial (q_idxA Tryd.underlying162 Tryd.ti159 rfl rfl zz12 zz12 (j) zz12) rfl sk0 ?_
          refine wpd_t0 11 rfl zz7 trivial (t_st1 Tryd.ti159 rfl rfl rfl zz36 _ (by first | exact v32s_set _ | rfl)) (fun _ => skk rfl) ?_
          intro _
          refine wpd_done zz7 ?_
          refine ex_block <| ex_then <| wpc_region ?_
          first | refine wpl_q (qop_eq (q_pure rfl) (congrArg (Value.int .i64) (wk_i64 zz12 zz12))) rfl ?_ | refine wpl_q (q_pure rfl) rfl ?_
          refine wpl_q (q_pure rfl) rfl <| wpl_nil ?_
          refine ex_again ⟨j + 1, zz12⟩ ?_ ?_ ?_
          · exact zz9
          · exact fun w h => h
          · show 8 - (j + 1) < 8 - j; omega
        ·
          simp only [decide_eq_true_eq, decide_eq_false_iff_not, Bool.and_eq_true, Bool.or_eq_true, beq_iff_eq, bne_iff_ne, ne_eq] at hc97
          refine wpc_exit ?_
          refine ex_then_exit ?_
          refine ex_then_exit ?_
          refine ex_block_hit ?_
          refine ret0 (.inr rfl) rfl ?_
          obtain rfl : j = 8 := by omega
          exact fun w h => ⟨(), rfl, h.sub (.drop (Sub.refl _)) .nil⟩
end Go.Proofs.YtgnablliekgbgaaDoor
namespace Go.Proofs.YtgnablliekgbgaaDoor
open Go Go.PL Go.RowKit
def chunksF (c : List UInt8) : List (List UInt8) := (List.range (c.length / 64)).map fun i => (c.drop (64 * i)).take 64
def bufF (c : List UInt8) : List UInt8 := c.drop (64 * (c.length / 64)) ++ List.replicate (64 - c.length % 64) 0
theorem bufF_length (c : List UInt8) : (bufF c).length = 64 := by
  simp only [bufF, List.length_append, List.length_drop, List.length_replicate]
  omega
theorem bufF_zero (c : List UInt8) (h : c.length % 64 = 0) : bufF c = List.replicate 64 0 := by
  unfold bufF
  rw [h, List.drop_of_length_le zz12]; rfl
theorem buf_take (c : List UInt8) : (bufF c).take (c.length % 64) = c.drop (64 * (c.length / 64)) := by
  unfold bufF
  rw [List.take_append_of_le_length zz38]
  exact List.take_of_length_le zz38
theorem buf_drop (c : List UInt8) (k : Nat) : (bufF c).drop (c.length % 64 + k) = List.replicate (64 - (c.length % 64 + k)) 0 := by
  unfold bufF
  have e : (c.drop (64 * (c.length / 64))).length = c.length % 64 := by rw [List.length_drop]; omega
  rw [List.drop_append, e, show c.length % 64 + k - c.length % 64 = k from zz12, List.drop_of_length_le zz12, List.nil_append, List.drop_replicate]
  congr 1; omega
theorem put_part (c x : List UInt8) (h : c.length % 64 + x.length < 64) : chunksF (c ++ x) = chunksF c ∧ (bufF c).take (c.length % 64) ++ x ++ (bufF c).drop (c.length % 64 + x.length) = bufF (c ++ x) := by
  have hq : (c ++ x).length / 64 = c.length / 64 := by rw [List.length_append]; omega
  have hm : (c ++ x).length % 64 = c.length % 64 + x.length := by rw [List.length_append]; omega
  constructor
  · unfold chunksF
    rw [hq]
    apply List.map_congr_left
    intro i hi
    have hi' := List.mem_range.1 hi
    rw [List.drop_append_of_le_length zz12, List.take_append_of_le_length zz38]
  · rw [buf_take, buf_drop]
    unfold bufF
    rw [hq, hm, List.drop_append_of_le_length zz12]
theorem put_full (c x : List UInt8) (h : c.length % 64 + x.length = 64) : chunksF (c ++ x) = chunksF c ++ [(bufF c).take (c.length % 64) ++ x ++ (bufF c).drop (c.length % 64 + x.length)] ∧ (c ++ x).length % 64 = 0 := by
  have hq : (c ++ x).length / 64 = c.length / 64 + 1 := by rw [List.length_append]; omega
  have hm : (c ++ x).length % 64 = 0 := by rw [List.length_append]; omega
  refine ⟨?_, hm⟩
  unfold chunksF
  rw [hq, List.range_succ, List.map_append, buf_take, buf_drop]
  congr 1
  · apply List.map_congr_left
    intro i hi
    have hi' := List.mem_range.1 hi
    rw [List.drop_append_of_le_length zz12, List.take_append_of_le_length zz38]
  · simp only [List.map_cons, List.map_nil]
    rw [List.drop_append_of_le_length zz12, List.take_of_length_le (by rw [List.length_append, List.length_drop]; omega), h]
    simp
abbrev Jt := List Nat → List (List UInt8) → World → Prop
structure PutInv (J : Jt) (T : List Nat) (c p : List UInt8) (p0 : Value) (b nb y l : Nat) (wS : World) (j : Nat) (v : Value) (wb : World) : Prop where
  le : j ≤ p.length
  J : J T (chunksF (c ++ p.take j)) wb
  v : ∀ r, Seen r p0 p.length 1 (v8s p) → Seen r v (p.length - j) 1 (v8s (p.drop j))
  seen : Seen wb.cell? p0 p.length 1 (v8s p)
  yv : wb.heap[y]? = some (.cells #[.func (.yield l) #[] #[]] 168 (0, 0))
  keep : ∀ k, k ∈ T → k ≠ b → k ≠ nb → wb.heap[k]? = wS.heap[k]?
  size : wS.heap.size ≤ wb.heap.size
def PutPost (J : Jt) (T : List Nat) (c : List UInt8) (b nb : Nat) (wS : World) (e : Ending) (w : World) : Prop :=
  e = .returned (.tuple #[]) ∧ J T (chunksF c) w ∧ w.heap[b]? = some (.cells (v8s (bufF c)).toArray 170 (0, 0)) ∧ w.heap[nb]? = some (.cells #[.int .i64 ((c.length % 64 : Nat) : Int)] 3 (0, 0)) ∧
    (∀ k, k ∈ T → k ≠ b → k ≠ nb → w.heap[k]? = wS.heap[k]?) ∧ wS.heap.size ≤ w.heap.size
instance nop_put {P : Program} {fn : Func} {J : Jt} {T : List Nat} {c : List UInt8} {b nb : Nat} {wS : World} : NoP (bodyPost P fn (PutPost J T c b nb wS)) := nop_post fun c w' h => by cases h.1
def putM (c : List UInt8) (b nb : Nat) : List Ent := [.blk b 170 (v8s (bufF c)), .blk nb 3 [.int .i64 ((c.length % 64 : Nat) : Int)]]
section
variable (J : Jt) (T : List Nat) (c p : List UInt8) (p0 : Value) (b nb y l : Nat) (wS : World)
theorem slice_v {j q : Nat} {a : Option Addr} {cap : Nat} (hv : ∀ r, Seen r p0 p.length 1 (v8s p) → Seen r (.slice a (p.length - j) cap) (p.length - j) 1 (v8s (p.drop j))) (hj : j + q ≤ p.length) :
    ∀ r, Seen r p0 p.length 1 (v8s p) → Seen r (sliced a q (p.length - j) cap 1) (p.length - (j + q)) 1 (v8s (p.drop (j + q))) := fun r hr => by
  have h1 := (hv r hr).slice q (p.length - j) zz12 (Nat.le_refl _)
  have e1 : (p.length - j - q) = p.length - (j + q) := by omega
  have e2 : ((v8s (p.drop j)).drop (q * 1)).take ((p.length - j - q) * 1) = v8s (p.drop (j + q)) := by
    rw [Nat.mul_one, Nat.mul_one, v8s_drop, v8s_take, List.drop_drop, List.take_of_length_le zz38]
  rw [e2] at h1
  rw [← e1]
  exact h1
theorem PutInv.step {j q : Nat} {a : Option Addr} {cap : Nat} {wb : World} (h : PutInv J T c p p0 b nb y l wS j (.slice a (p.length - j) cap) wb) (hj : j + q ≤ p.length) (hJ : J T (chunksF (c ++ p.take (j + q))) wb) :
    PutInv J T c p p0 b nb y l wS (j + q) (sliced a q (p.length - j) cap 1) wb := ⟨hj, hJ, slice_v p p0 h.v hj, h.seen, h.yv, h.keep, h.size⟩
theorem take_plus (j q : Nat) : p.take (j + q) = p.take j ++ (p.drop j).take q := List.take_add ..
end
theorem cell_of_heap {w : World} {y : Nat} {cs : Array Value} {t : TypeId} (h : w.heap[y]? = some (.cells cs t (0, 0))) {off : Nat} {v : Value} (hv : cs[off]? = some v) : w.cell? ⟨y, off, none⟩ = some v := by simp [World.cell?, h, hv]
theorem chunks_prefix (c x : List UInt8) : chunksF c <+: chunksF (c ++ x) := by
  have hle : c.length / 64 ≤ (c ++ x).length / 64 := Nat.div_le_div_right zz40
  have e : chunksF c = (chunksF (c ++ x)).take (c.length / 64) := by
    unfold chunksF
    rw [← List.map_take, List.take_range, Nat.min_eq_left hle]
    apply List.map_congr_left
    intro i hi
    have hi' := List.mem_range.1 hi
    rw [List.drop_append_of_le_length zz12, List.take_append_of_le_length zz38]
  rw [e]; exact List.take_prefix ..
section
variable (J : Jt) (T : List Nat) (c p : List UInt8) (p0 : Value) (b nb y l : Nat) (wS : World) (ALL : List (List UInt8))
def YieldOk (P : Program) (J : Jt) (T : List Nat) (b l : Nat) (ALL : List (List UInt8)) : Prop :=
  ∀ pre x w1, J T pre w1 → (pre ++ [x]) <+: ALL → w1.heap[b]? = some (.cells (v8s x).toArray 170 (0, 0)) → YieldAt Fence.wide 0 P l #[.pointer (some ⟨b, 0, none⟩)] w1 fun e w' =>
    e = .returned (.bool true) ∧ J T (pre ++ [x]) w' ∧ w1.heap.size ≤ w'.heap.size ∧ ∀ k, k ∈ T → w'.heap[k]? = w1.heap[k]?
theorem put_yield (hst : ∀ pre w1 w2, J T pre w1 → Mem w1 T [] [] w2 → (∀ k, k ∈ T → k < w2.heap.size) → J T pre w2) (hyl : YieldOk Tryd.prog J T b l ALL)
    (hp : ∀ pre (w1 w2 : World), Seen w1.cell? p0 p.length 1 (v8s p) → J T pre w2 → (∀ k, k ∈ T → w2.heap[k]? = w1.heap[k]?) → Seen w2.cell? p0 p.length 1 (v8s p)) (hpre : chunksF (c ++ p) <+: ALL) (hTl : ∀ k, k ∈ T → k < wS.heap.size)
    (hpb : ∀ k, p0.ownBlock = some k → v8s p ≠ [] → k ≠ b ∧ k ≠ nb) (hbT : b ∈ T) (hnT : nb ∈ T) (hyT : y ∈ T) (hbn : b ≠ nb) (hby : b ≠ y) (hny : nb ≠ y)
    {j q : Nat} {a : Option Addr} {cap : Nat} {wb w : World} {full : List UInt8} {n' : Int} (hI : PutInv J T c p p0 b nb y l wS j (.slice a (p.length - j) cap) wb) (hjq : j + q ≤ p.length) (e1 : chunksF (c ++ p.take (j + q)) = chunksF (c ++ p.take j) ++ [full])
    (h : Mem wb [b, nb] [.blk b 170 (v8s full), .blk nb 3 [.int .i64 n']] [] w) :
    YieldAt Fence.wide 0 Tryd.prog l #[.pointer (some ⟨b, 0, none⟩)] w fun e w' => ∃ u : { u : World // PutInv J T c p p0 b nb y l wS (j + q) (sliced a q (p.length - j) cap 1) u }, e = .returned (.bool true) ∧ Mem u.1 [b, nb] [.blk b 170 (v8s full), .blk nb 3 [.int .i64 n']] [] w' := by
  have hb1 : w.heap[b]? = some (.cells (v8s full).toArray 170 (0, 0)) := h.own _ (List.mem_cons_self ..)
  have hb2 : w.heap[nb]? = some (.cells #[.int .i64 n'] 3 (0, 0)) := h.own (.blk nb 3 [.int .i64 n']) zz40
  have hm0 : Mem wb T [] [] w := (h.sub .nil .nil).lend (by intro k hk; simp at hk; rcases hk with rfl | rfl <;> assumption)
  have hJ := hst _ _ _ hI.J hm0 (fun k hk => Nat.lt_of_lt_of_le (hTl k hk) (Nat.le_trans hI.size h.size))
  have hpx : chunksF (c ++ p.take j) ++ [full] <+: ALL := by
    rw [← e1]
    refine List.IsPrefix.trans ?_ hpre
    have := chunks_prefix (c ++ p.take (j + q)) (p.drop (j + q))
    rwa [List.append_assoc, List.take_append_drop] at this
  obtain ⟨fn, tmps, assign, body, hrun, hround⟩ := hyl _ _ _ hJ hpx hb1
  refine ⟨fn, tmps, assign, body, hrun, hround.mono ?_⟩
  rintro e w' ⟨rfl, hJ', hsz, hT⟩
  have hseen := hp _ w w' (h.at2 hI.seen hpb) hJ' hT
  have hyw : w'.heap[y]? = some (.cells #[.func (.yield l) #[] #[]] 168 (0, 0)) := by
    rw [hT y hyT, h.old y (Array.getElem?_eq_some_iff.1 hI.yv).1 (by simp; exact ⟨fun e => hby e.symm, fun e => hny e.symm⟩)]; exact hI.yv
  refine ⟨⟨w', hjq, by rw [e1]; exact hJ', slice_v p p0 hI.v hjq, hseen, hyw, fun k hk h1 h2 => ?_, Nat.le_trans hI.size (Nat.le_trans h.size hsz)⟩, rfl, ?_⟩
  · rw [hT k hk, h.old k (Nat.lt_of_lt_of_le (hTl k hk) hI.size) (by simp; exact ⟨h1, h2⟩)]; exact hI.keep k hk h1 h2
  · exact Mem.startL (Ms := [.blk b 170 (v8s full), .blk nb 3 [.int .i64 n']]) w' (by
      intro e he
      simp at he
      rcases he with rfl | rfl
      · exact (hT b hbT).trans hb1
      · exact (hT nb hnT).trans hb2) (by simp [Ent.num]; exact fun e => hbn e.symm)
theorem put_fin (hst : ∀ pre w1 w2, J T pre w1 → Mem w1 T [] [] w2 → (∀ k, k ∈ T → k < w2.heap.size) → J T pre w2) (hTl : ∀ k, k ∈ T → k < wS.heap.size) (hbT : b ∈ T) (hnT : nb ∈ T) {v : Value} {wb w : World} (hI : PutInv J T c p p0 b nb y l wS p.length v wb)
    (h : Mem wb [b, nb] (putM (c ++ p.take p.length) b nb) [] w) : PutPost J T (c ++ p) b nb wS (.returned (.tuple #[])) w := by
  rw [List.take_length] at h
  have hm0 : Mem wb T [] [] w := (h.sub .nil .nil).lend (by intro k hk; simp at hk; rcases hk with rfl | rfl <;> assumption)
  have hJ := hst _ _ _ hI.J hm0 (fun k hk => Nat.lt_of_lt_of_le (hTl k hk) (Nat.le_trans hI.size h.size))
  rw [List.take_length] at hJ
  refine ⟨rfl, hJ, h.own _ (List.mem_cons_self ..), h.own _ (List.mem_cons_of_mem _ (List.mem_cons_self ..)), fun k hk h1 h2 => ?_, Nat.le_trans hI.size h.size⟩
  rw [h.old k (Nat.lt_of_lt_of_le (hTl k hk) hI.size) (by simp; exact ⟨h1, h2⟩)]; exact hI.keep k hk h1 h2
end
end Go.Proofs.YtgnablliekgbgaaDoor
namespace Go.Proofs.YtgnablliekgbgaaDoor
open Go Go.PL Go.RowKit
theorem putMm (J : Jt) (T : List Nat) (c p : List UInt8) (p0 : Value) (b nb y l : Nat) (wS : World) (ALL : List (List UInt8)) (hst : ∀ pre w1 w2, J T pre w1 → Mem w1 T [] [] w2 → (∀ k, k ∈ T → k < w2.heap.size) → J T pre w2) (hyl : YieldOk Tryd.prog J T b l ALL)
    (hp : ∀ pre (w1 w2 : World), Seen w1.cell? p0 p.length 1 (v8s p) → J T pre w2 → (∀ k, k ∈ T → w2.heap[k]? = w1.heap[k]?) → Seen w2.cell? p0 p.length 1 (v8s p)) (hpre : chunksF (c ++ p) <+: ALL) (hTl : ∀ k, k ∈ T → k < wS.heap.size)
    (hpb : ∀ k, p0.ownBlock = some k → v8s p ≠ [] → k ≠ b ∧ k ≠ nb) (hbT : b ∈ T) (hnT : nb ∈ T) (hyT : y ∈ T) (hbn : b ≠ nb) (hby : b ≠ y) (hny : nb ≠ y)
    (hJ : J T (chunksF c) wS) (hs : Seen wS.cell? p0 p.length 1 (v8s p)) (hb : wS.heap[b]? = some (.cells (v8s (bufF c)).toArray 170 (0, 0))) (hn : wS.heap[nb]? = some (.cells #[.int .i64 ((c.length % 64 : Nat) : Int)] 3 (0, 0))) (hyv : wS.heap[y]? = some (.cells #[.func (.yield l) #[] #[]] 168 (0, 0))) :
    Calls Tryd.prog 101 [p0, .pointer (some ⟨b, 0, none⟩), .pointer (some ⟨nb, 0, none⟩), .pointer (some ⟨y, 0, none⟩)].toArray wS (PutPost J T (c ++ p) b nb wS) := by
  have hI0 : PutInv J T c p p0 b nb y l wS 0 p0 wS := ⟨Nat.zero_le _, by simpa using hJ, fun r h => by simpa using h, hs, hyv, fun _ _ _ _ => rfl, Nat.le_refl _⟩
  have hyb : (⟨y, 0, none⟩ : Addr).block ∉ [b, nb] := by simp; exact ⟨fun e => hby e.symm, fun e => hny e.symm⟩
  refine enter (m := 24) (R := Mem wS [b, nb] (putM c b nb) []) Tryd.func101 rfl rfl (Nat.le_of_ble_eq_true rfl) (Mem.startL (Ms := putM c b nb) wS (by
    intro e he
    simp [putM] at he
    rcases he with rfl | rfl
    · exact hb
    · exact hn) (by simp [putM, Ent.num]; exact fun e => hbn e.symm)) ?_
  refine wpc_block ?_
  refine wpc_loop (ι := { x : Nat × Value × World // PutInv J T c p p0 b nb y l wS x.1 x.2.1 x.2.2 }) (fun x => [(0, x.1.2.1), (1, .pointer (some ⟨b, 0, none⟩)), (2, .pointer (some ⟨nb, 0, none⟩)), (3, .pointer (some ⟨y, 0, none⟩))]) (fun x => Mem x.1.2.2 [b, nb] (putM (c ++ p.take x.1.1) b nb) []) (fun x => p.length - x.1.1) ⟨(0, p0, wS), hI0⟩ ?_ ?_ ?_
  · exact by repeat (first | exact trivial | refine ⟨rfl, ?_⟩)
  · exact fun w h => by have e : c ++ p.take 0 = c := by simp
                        rw [e]; exact h
  · rintro ⟨⟨j, v, wb⟩, hI⟩; dsimp only
    have hI : PutInv J T c p p0 b nb y l wS j v wb := hI
    obtain ⟨a, cap, rfl, hc1, hc2, hc3⟩ := (hI.v _ hI.seen).form
    have hjl := hI.le
    have hbl := bufF_length (c ++ p.take j)
    have hnl : (c ++ p.take j).length % 64 < 64 := Nat.mod_lt _ zz19
    simp only [putM]
    refine wpc_seq <| wpc_seq <| wpc_region <| wpl_q (q_pure rfl) rfl <| wpl_q (q_len Tryd.underlying34 rfl) rfl <| wpl_q (q_pure rfl) rfl <| wpl_nil <| ex_then ?_
    refine wpc_cond rfl (fun hc8 => ?_) (fun hc8 => ?_)
    ·
      simp only [decide_eq_true_eq] at hc8
      obtain ⟨q, hq⟩ : ∃ q, min (p.length - j) (64 - (c ++ p.take j).length % 64) = q := ⟨_, rfl⟩
      have hql : ((p.drop j).take q).length = q := by rw [List.length_take, List.length_drop]; omega
      have eT : c ++ p.take (j + q) = (c ++ p.take j) ++ (p.drop j).take q := by rw [take_plus, List.append_assoc]
      have hfl : ((bufF (c ++ p.take j)).take ((c ++ p.take j).length % 64) ++ (p.drop j).take q ++ (bufF (c ++ p.take j)).drop ((c ++ p.take j).length % 64 + q)).length = 64 := by rw [List.length_append, List.length_append, List.length_take, List.length_drop, hbl, hql]; omega
      refine wpc_skip <| ex_then <| wpc_block <| wpc_seq <| wpc_region <| wpl_q (q_ld Tryd.underlying3 rfl rfl rfl) rfl ?_
      refine wpl_q (qop_eq (q_ar_l Tryd.underlying170 Tryd.ti5 rfl rfl zz12 zz12 ((c ++ p.take j).length % 64) zz12) (slicedAt_lt _ _ _ _ hnl)) rfl ?_
      refine wpl_q (q_pure rfl) rfl ?_
      refine wpl_t (t_copy Tryd.underlying34 Tryd.ti5 rfl rfl (fun w h => hI.v _ (h.at2 hI.seen hpb)) (v8s_one _) (by rw [v8s_length]; omega) q hq (v8s ((bufF (c ++ p.take j)).take ((c ++ p.take j).length % 64) ++ (p.drop j).take q ++ (bufF (c ++ p.take j)).drop ((c ++ p.take j).length % 64 + q))) (by rw [v8s_take, v8s_take, v8s_drop, ← v8s_append, ← v8s_append])) rfl ?_
      intro b12
      refine wpl_q (q_pure rfl) rfl <| wpl_nil <| ex_then <| wpc_seq ?_
      refine wpc_draw 7 zz7 (fun _ h => h.drew) ?_
      refine wpd_p 0 rfl zz7 trivial (q_pure rfl) rfl sk0 ?_
      refine wpd_p 1 rfl zz7 trivial (q_pure rfl) rfl sk0 ?_
      refine wpd_p 2 rfl zz7 trivial (q_sl_l Tryd.underlying34 Tryd.ti5 rfl rfl zz12 zz12 q zz12) rfl sk0 ?_
      refine wpd_q 3 rfl zz7 trivial (q_ld Tryd.underlying3 rfl rfl rfl) rfl (fun _ h => h) ?_
      refine wpd_p 4 rfl zz7 trivial (q_pure rfl) rfl sk0 ?_
      first | refine wpd_p 5 rfl zz7 trivial (qop_eq (q_pure rfl) (congrArg (Value.int .i64) (wk_i64 zz12 zz12))) rfl sk0 ?_ | refine wpd_p 5 rfl zz7 trivial (q_pure rfl) rfl sk0 ?_
      refine wpd_p 6 rfl zz7 trivial (q_pure rfl) rfl sk0 ?_
      refine wpd_t0 7 rfl zz7 trivial (t_st1 Tryd.ti3 rfl rfl rfl Nat.zero_lt_one _ rfl) (fun _ => skk rfl) ?_
      intro _
      refine wpd_done zz7 ?_
      refine ex_then <| wpc_seq <| wpc_region <| wpl_q (q_ld Tryd.underlying3 rfl rfl rfl) rfl <| wpl_q (q_pure rfl) rfl <| wpl_nil <| ex_then ?_
      refine wpc_cond rfl (fun hc20 => ?_) (fun hc20 => ?_)
      ·
        have hjq : j + q ≤ p.length := by omega
        simp only [beq_iff_eq, decide_eq_true_eq] at hc20
        have hfull : (c ++ p.take j).length % 64 + q = 64 := by omega
        obtain ⟨e1, e2⟩ := put_full (c ++ p.take j) ((p.drop j).take q) (by rw [hql]; exact hfull)
        rw [hql] at e1
        rw [← eT] at e1 e2
        refine wpc_seq ?_
        refine wpc_region_y ?_
        refine wpli_q open_wide (q_load1 Tryd.underlying168 rfl rfl (fun w h => h.cell_oldL (cell_of_heap hI.yv rfl) hyb)) rfl ?_
        refine wpli_yield (l := l) (ι := { u : World // PutInv J T c p p0 b nb y l wS (j + q) (sliced a q (p.length - j) cap 1) u }) (V := fun _ => .bool true) (R' := fun u => Mem u.1 [b, nb] [.blk b 170 (v8s ((bufF (c ++ p.take j)).take ((c ++ p.take j).length % 64) ++ (p.drop j).take q ++ (bufF (c ++ p.take j)).drop ((c ++ p.take j).length % 64 + q))), .blk nb 3 [.int .i64 (((c ++ p.take j).length % 64 : Nat) + (q : Nat) : Int)]] []) rfl rfl ?_ rfl fun u => ?_
        · exact fun w h => put_yield J T c p p0 b nb y l wS ALL hst hyl hp hpre hTl hpb hbT hnT hyT hbn hby hny hI hjq e1 h
        refine wpli_nil ?_
        obtain ⟨wb2, HI⟩ := u
        refine ex_then <| wpc_region ?_
        refine wpl_q (q_build (cs := v8s (List.replicate 64 0)) (vs := []) rfl (built_array Tryd.underlying170 Tryd.ti170 Tryd.ti5 rfl)) rfl ?_
        refine wpl_t0 (t_stA Tryd.ti170 rfl rfl rfl (v8s_one _) (by rw [v8s_length]; exact hfl)) ?_
        intro _
        refine wpl_t0 (t_st1 Tryd.ti3 rfl rfl rfl Nat.zero_lt_one _ rfl) ?_
        intro _
        refine wpl_nil <| ex_block ?_
        refine ex_again ⟨(j + q, _, _), HI⟩ ?_ ?_ ?_
        · exact zz9
        · exact fun w h => by
            first
            | (show Mem _ _ (putM (c ++ p.take (j + q)) b nb) _ _
               rw [putM, bufF_zero _ e2, e2]; exact h)
            | (show Mem _ _ (putM (c ++ p.take (j + q)) b nb) _ _
               rw [putM, ← e2, show (((c ++ p.take (j + q)).length % 64 : Nat) : Int) = ((c ++ p.take j).length % 64 : Nat) + (q : Nat) by rw [take_plus, ← List.append_assoc, List.length_append, hql]; omega]; exact h)
        · show p.length - (j + q) < p.length - j; omega
      ·
        simp only [beq_eq_false_iff_ne, decide_eq_false_iff_not, ne_eq] at hc20
        obtain ⟨e1, e2⟩ := put_part (c ++ p.take j) ((p.drop j).take q) (by rw [hql]; omega)
        rw [hql] at e2
        rw [← eT] at e1 e2
        have HI := PutInv.step J T c p p0 b nb y l wS hI (q := q) zz12 (by rw [e1]; exact hI.J)
        refine wpc_skip <| ex_block ?_
        refine ex_again ⟨(j + q, _, _), HI⟩ ?_ ?_ ?_
        · exact zz9
        · exact fun w h => by
            first
            | (show Mem _ _ (putM (c ++ p.take (j + q)) b nb) _ _
               rw [putM, bufF_zero _ e2, e2]; exact h)
            | (show Mem _ _ (putM (c ++ p.take (j + q)) b nb) _ _
               rw [putM, ← e2, show (((c ++ p.take (j + q)).length % 64 : Nat) : Int) = ((c ++ p.take j).length % 64 : Nat) + (q : Nat) by rw [take_plus, ← List.append_assoc, List.length_append, hql]; omega]; exact h)
        · show p.length - (j + q) < p.length - j; omega
    ·
      simp only [decide_eq_false_iff_not] at hc8
      obtain rfl : j = p.length := by omega
      refine wpc_exit ?_
      refine ex_then_exit ?_
      refine ex_then_exit ?_
      refine ex_block_hit ?_
      refine ret0 (.inr rfl) rfl ?_
      exact fun w h => put_fin J T c p p0 b nb y l wS hst hTl hbT hnT hI h
end Go.Proofs.YtgnablliekgbgaaDoor
namespace Go.Proofs.YtgnablliekgbgaaDoor
open Go Go.PL Go.RowKit
def setLen (buf : List UInt8) (x : UInt64) : Nat → List UInt8
  | 0 => buf
  | i + 1 => (setLen buf x i).set (56 + i) (of8 (sr64 x (56 - 8 * i)).toNat)
theorem setLen_length (buf : List UInt8) (x : UInt64) : ∀ i, (setLen buf x i).length = buf.length
  | 0 => rfl
  | i + 1 => by simp [setLen, setLen_length buf x i]
def cF (a : List UInt8) : List UInt8 := if (a ++ [128]).length % 64 > 56 then (a ++ [128]) ++ List.replicate (64 - (a ++ [128]).length % 64) 0 else a ++ [128]
def lenN (ps : List (List UInt8)) : Nat → UInt64
  | 0 => 0
  | i + 1 => lenN ps i + of64 (ps.getD i []).length
def blocksF (ps : List (List UInt8)) : List (List UInt8) := chunksF (cF ps.flatten) ++ [setLen (bufF (cF ps.flatten)) (lenN ps ps.length * 8) 8]
def Parts (r : Rd) (v : Value) (ps : List (Value × List UInt8)) : Prop := Seen r v ps.length 1 (ps.map Prod.fst) ∧ ∀ q ∈ ps, Seen r q.1 q.2.length 1 (v8s q.2)
def encBMm (_ : List UInt8) (b : Nat) : Array Value := #[.pointer (some ⟨b, 0, none⟩)]
def AtB (T : List Nat) (x : List UInt8) (b : Nat) (w : World) : Prop := b ∈ T ∧ w.heap[b]? = some (.cells (v8s x).toArray 170 (0, 0))
def InvB (pb : Nat) (v : Value) (ps : List (Value × List UInt8)) (w : World) : Prop := w.heap[pb]? = some (.cells #[v] 160 (0, 0)) ∧ Parts w.cell? v ps
def blkM (l : Nat) (c : List UInt8) (b nb y : Nat) : List Ent := [.blk nb 3 [.int .i64 ((c.length % 64 : Nat) : Int)], .blk b 170 (v8s (bufF c)), .blk y 168 [.func (.yield l) #[] #[]]]
structure ItInv (J : Jt) (W : World) (c : List UInt8) (b nb y l : Nat) (wb : World) : Prop where
  J : J [nb, b, y] (chunksF c) wb
  b : W.heap.size ≤ b
  nb : W.heap.size ≤ nb
  y : W.heap.size ≤ y
def Stab (J : Jt) : Prop := ∀ T T' pre w1 w2, J T pre w1 → Mem w1 T [] [] w2 → (∀ k, k ∈ T' → (k ∈ T ∨ w1.heap.size ≤ k) ∧ k < w2.heap.size) → J T' pre w2
theorem put_at (J : Jt) (W : World) (l : Nat) (ALL : List (List UInt8)) (pb : Nat) (pv : Value) (ps : List (Value × List UInt8)) (hst : Stab J) (hyl : ∀ T b, b ∈ T → YieldOk Tryd.prog J T b l ALL)
    {c p : List UInt8} {p0 : Value} {b nb y : Nat} {wb w : World} {X : List Ent} (hI : ItInv J W c b nb y l wb) (h : Mem wb [nb, b, y] (X ++ blkM l c b nb y) [] w)
    (hpre : chunksF (c ++ p) <+: ALL) (hs : Seen w.cell? p0 p.length 1 (v8s p)) (hpb : ∀ k, p0.ownBlock = some k → v8s p ≠ [] → k ≠ b ∧ k ≠ nb)
    (hp : ∀ pre (w1 w2 : World), Seen w1.cell? p0 p.length 1 (v8s p) → J (nums X ++ [nb, b, y]) pre w2 → (∀ k, k ∈ nums X ++ [nb, b, y] → w2.heap[k]? = w1.heap[k]?) → Seen w2.cell? p0 p.length 1 (v8s p)) :
    Calls Tryd.prog 101 #[p0, .pointer (some ⟨b, 0, none⟩), .pointer (some ⟨nb, 0, none⟩), .pointer (some ⟨y, 0, none⟩)] w fun e w' =>
      ∃ u : { u : World // ItInv J W (c ++ p) b nb y l u }, e = .returned (.tuple #[]) ∧ Mem u.1 [nb, b, y] (blkM l (c ++ p) b nb y) [] w' := by
  have hn : w.heap[nb]? = some (.cells #[.int .i64 ((c.length % 64 : Nat) : Int)] 3 (0, 0)) := h.own (.blk nb 3 [.int .i64 ((c.length % 64 : Nat) : Int)]) (by simp [blkM])
  have hb : w.heap[b]? = some (.cells (v8s (bufF c)).toArray 170 (0, 0)) := h.own (.blk b 170 (v8s (bufF c))) (by simp [blkM])
  have hy : w.heap[y]? = some (.cells #[.func (.yield l) #[] #[]] 168 (0, 0)) := h.own (.blk y 168 [.func (.yield l) #[] #[]]) (by simp [blkM])
  have hap := (List.pairwise_append.1 h.apart).2.1
  simp only [blkM, List.pairwise_cons, List.mem_cons, List.mem_nil_iff, or_false, Ent.num, Option.some.injEq, forall_eq_or_imp, forall_eq] at hap
  have hnb : nb ≠ b := fun e => (hap.1.1 nb rfl) (congrArg some e.symm)
  have hny : nb ≠ y := fun e => (hap.1.2 nb rfl) (congrArg some e.symm)
  have hby : b ≠ y := fun e => (hap.2.1 b rfl) (congrArg some e.symm)
  have hTl : ∀ k, k ∈ nums X ++ [nb, b, y] → k < w.heap.size := by
    intro k hk
    rcases List.mem_append.1 hk with hk | hk
    · obtain ⟨e, he, hne⟩ := mem_nums.1 hk
      exact Ent.lt (h.own e (List.mem_append_left _ he)) hne
    · simp at hk
      rcases hk with rfl | rfl | rfl
      · exact (Array.getElem?_eq_some_iff.1 hn).1
      · exact (Array.getElem?_eq_some_iff.1 hb).1
      · exact (Array.getElem?_eq_some_iff.1 hy).1
  have hX : ∀ k, k ∈ nums X → wb.heap.size ≤ k := fun k hk => by
    obtain ⟨e, he, hne⟩ := mem_nums.1 hk
    rcases h.new e (List.mem_append_left _ he) k hne with h1 | h1
    · exact h1
    · have hxx := (List.pairwise_append.1 h.apart).2.2 e he
      simp at h1
      rcases h1 with rfl | rfl | rfl
      · exact absurd rfl (hxx (.blk k 3 [.int .i64 ((c.length % 64 : Nat) : Int)]) (by simp [blkM]) k hne)
      · exact absurd rfl (hxx (.blk k 170 (v8s (bufF c))) (by simp [blkM]) k hne)
      · exact absurd rfl (hxx (.blk k 168 [.func (.yield l) #[] #[]]) (by simp [blkM]) k hne)
  have hJ : J (nums X ++ [nb, b, y]) (chunksF c) w := hst _ _ _ _ _ hI.J (h.sub .nil .nil) fun k hk => ⟨(List.mem_append.1 hk).symm.imp id (hX k), hTl k hk⟩
  refine (putMm J (nums X ++ [nb, b, y]) c p p0 b nb y l w ALL (fun pre w1 w2 h1 h2 h3 => hst _ _ _ _ _ h1 h2 fun k hk => ⟨.inl hk, h3 k hk⟩) (hyl _ _ zz40) hp hpre hTl hpb zz40 zz40 zz40 hnb.symm hby hny hJ hs hb hn hy).mono ?_
  rintro e w' ⟨rfl, j1, j2, j3, j4, j5⟩
  have hy' : w'.heap[y]? = some (.cells #[.func (.yield l) #[] #[]] 168 (0, 0)) := (j4 y zz40 hby.symm hny.symm).trans hy
  refine ⟨⟨w', hst _ _ _ _ _ j1 ((Mem.start w').lend zz40) (fun k hk => ⟨.inl (List.mem_append_right _ hk), ?_⟩), hI.b, hI.nb, hI.y⟩, rfl, ?_⟩
  · exact Nat.lt_of_lt_of_le (hTl k (List.mem_append_right _ hk)) j5
  · exact Mem.startL (Ms := blkM l (c ++ p) b nb y) w' (by
      intro e he
      simp only [blkM, List.mem_cons, List.mem_nil_iff, or_false] at he
      rcases he with rfl | rfl | rfl
      · exact j3
      · exact j2
      · exact hy') (by simp [blkM, Ent.num]; exact ⟨⟨hnb.symm, hny.symm⟩, hby.symm⟩)
theorem addr_block (a : Addr) (i : Nat) : (a.add i).block = a.block := by unfold Addr.add; split <;> rfl
theorem cF_pre (a : List UInt8) : ∃ x, a ++ [128] ++ x = cF a := by
  unfold cF
  split
  · exact ⟨_, rfl⟩
  · exact ⟨[], zz40⟩
theorem pre_all (ps : List (List UInt8)) (c : List UInt8) (h : ∃ x, c ++ x = cF ps.flatten) : chunksF c <+: blocksF ps := by
  obtain ⟨x, hx⟩ := h
  unfold blocksF
  rw [← hx]
  exact (chunks_prefix c x).trans (List.prefix_append _ _)
theorem pre_take (ps : List (List UInt8)) (i : Nat) : ∃ x, (ps.take i).flatten ++ x = cF ps.flatten := by
  obtain ⟨x, hx⟩ := cF_pre ps.flatten
  refine ⟨(ps.drop i).flatten ++ ([128] ++ x), ?_⟩
  rw [← hx, ← List.append_assoc, ← List.flatten_append, List.take_append_drop, List.append_assoc]
theorem take_succ_flatMm (ps : List (List UInt8)) (i : Nat) (h : i < ps.length) : (ps.take (i + 1)).flatten = (ps.take i).flatten ++ ps.getD i [] := by
  have e : ps.take (i + 1) = ps.take i ++ [ps.getD i []] := by rw [List.take_add_one]; simp [h]
  rw [e]; simp
theorem cF_full (a : List UInt8) (h : (a ++ [128]).length % 64 > 56) : cF a = (a ++ [128]) ++ List.replicate (64 - (a ++ [128]).length % 64) 0 := if_pos h
theorem cF_room (a : List UInt8) (h : ¬ (a ++ [128]).length % 64 > 56) : cF a = a ++ [128] := if_neg h
end Go.Proofs.YtgnablliekgbgaaDoor
namespace Go.Proofs.YtgnablliekgbgaaDoor
open Go Go.PL Go.RowKit
theorem mem_c {u w : World} {T : List Nat} {l b nb y : Nat} {c c' : List UInt8} (e : c = c') (h : Mem u T (blkM l c' b nb y) [] w) : Mem u T (blkM l c b nb y) [] w := e ▸ h
theorem zeros_flat (k : Nat) : (List.replicate k (Value.int .u8 0).cells.toList).flatten = v8s (List.replicate k 0) := by
  induction k with
  | zero => rfl
  | succ k ih => rw [List.replicate_succ, List.flatten_cons, ih, List.replicate_succ]; rfl
theorem put_row (J : Jt) (W : World) (l : Nat) (ALL : List (List UInt8)) (pb : Nat) (pv : Value) (ps : List (Value × List UInt8)) (hst : Stab J) (hyl : ∀ T b, b ∈ T → YieldOk Tryd.prog J T b l ALL)
    {c p : List UInt8} {r m cap : Nat} {b nb y : Nat} {wb w : World} (hI : ItInv J W c b nb y l wb) (h : Mem wb [nb, b, y] (.row (.slice (some ⟨r, 0, none⟩) m cap) m 5 1 (v8s p) :: blkM l c b nb y) [] w) (hpre : chunksF (c ++ p) <+: ALL) :
    Calls Tryd.prog 101 #[.slice (some ⟨r, 0, none⟩) m cap, .pointer (some ⟨b, 0, none⟩), .pointer (some ⟨nb, 0, none⟩), .pointer (some ⟨y, 0, none⟩)] w fun e w' =>
      ∃ u : { u : World // ItInv J W (c ++ p) b nb y l u }, e = .returned (.tuple #[]) ∧ Mem u.1 [nb, b, y] (blkM l (c ++ p) b nb y) [] w' := by
  have hlen : m = p.length := by have := h.row_len (List.mem_cons_self ..); simpa using this.symm
  subst hlen
  have hap := (List.pairwise_cons.1 h.apart).1
  have hrb : r ≠ b := fun e => hap (.blk b 170 (v8s (bufF c))) (by simp [blkM]) r rfl (by rw [e]; rfl)
  have hrn : r ≠ nb := fun e => hap (.blk nb 3 [.int .i64 ((c.length % 64 : Nat) : Int)]) (by simp [blkM]) r rfl (by rw [e]; rfl)
  refine put_at J W l ALL pb pv ps hst hyl (X := [.row (.slice (some ⟨r, 0, none⟩) p.length cap) p.length 5 1 (v8s p)]) hI h hpre (h.seen_row (List.mem_cons_self ..)) (fun k hk _ => by
    simp [Value.ownBlock] at hk; subst hk; exact ⟨hrb, hrn⟩) (fun pre w1 w2 h1 _ hT => ?_)
  have hrT := hT r (by simp [nums, Ent.num, Value.ownBlock])
  obtain ⟨q1, a, cp, q2, q3, q4, q5⟩ := h1
  simp at q2
  obtain ⟨rfl, rfl⟩ := q2
  refine ⟨q1, _, _, rfl, q3, q4, ?_⟩
  rcases q5 with q5 | ⟨ad, q5, q6⟩
  · cases q5.1
  · cases q5
    refine .inr ⟨_, rfl, fun j u hj => ?_⟩
    have := q6 j u hj
    rw [add_lit] at this ⊢
    exact (World.cell?_of_block hrT).trans this
theorem last_yield (J : Jt) (W : World) (l : Nat) (ALL : List (List UInt8)) (ps : List (Value × List UInt8)) (hst : Stab J) (hyl : ∀ T b, b ∈ T → YieldOk Tryd.prog J T b l ALL) (hALL : blocksF (ps.map Prod.snd) = ALL)
    {b nb y : Nat} {n' : Int} {wb w : World} (hI : ItInv J W (cF (ps.map Prod.snd).flatten) b nb y l wb)
    (h : Mem wb [nb, b, y] [.blk nb 3 [.int .i64 n'], .blk b 170 (v8s (setLen (bufF (cF (ps.map Prod.snd).flatten)) (lenN (ps.map Prod.snd) ps.length * 8) 8)), .blk y 168 [.func (.yield l) #[] #[]]] [] w) :
    YieldAt Fence.wide 0 Tryd.prog l #[.pointer (some ⟨b, 0, none⟩)] w fun e w' => ∃ u : { u : World // ∃ T, J T ALL u }, e = .returned (.bool true) ∧ w' = u.1 := by
  have hlt : ∀ k, k ∈ [nb, b, y] → k < w.heap.size := fun k hk => by
    have hk' : k ∈ nums [.blk nb 3 [.int .i64 n'], .blk b 170 (v8s (setLen (bufF (cF (ps.map Prod.snd).flatten)) (lenN (ps.map Prod.snd) ps.length * 8) 8)), .blk y 168 [.func (.yield l) #[] #[]]] := hk
    obtain ⟨e, he, hn⟩ := mem_nums.1 hk'
    exact Ent.lt (h.own e he) hn
  have hJ := hst _ [nb, b, y] _ _ _ hI.J (h.sub .nil .nil) (fun k hk => ⟨.inl hk, hlt k hk⟩)
  have hb : w.heap[b]? = some (.cells (v8s (setLen (bufF (cF (ps.map Prod.snd).flatten)) (lenN (ps.map Prod.snd) ps.length * 8) 8)).toArray 170 (0, 0)) := h.own (.blk b 170 (v8s (setLen (bufF (cF (ps.map Prod.snd).flatten)) (lenN (ps.map Prod.snd) ps.length * 8) 8))) zz40
  have hall : chunksF (cF (ps.map Prod.snd).flatten) ++ [setLen (bufF (cF (ps.map Prod.snd).flatten)) (lenN (ps.map Prod.snd) ps.length * 8) 8] = ALL := by rw [← hALL]; unfold blocksF; rw [List.length_map]
  obtain ⟨fn, tmps, assign, body, hrun, hround⟩ := hyl [nb, b, y] b zz40 _ _ w hJ (by rw [hall]; exact List.prefix_refl _) hb
  refine ⟨fn, tmps, assign, body, hrun, hround.mono ?_⟩
  rintro e w' ⟨rfl, hJ', _⟩
  rw [hall] at hJ'
  exact ⟨⟨w', _, hJ'⟩, rfl, rfl⟩
def ItPost (J : Jt) (ALL : List (List UInt8)) (e : Ending) (w : World) : Prop := (∃ v, e = .returned v) ∧ ∃ T, J T ALL w
theorem iter (J : Jt) (W : World) (l : Nat) (ALL : List (List UInt8)) (pb : Nat) (pv : Value) (ps : List (Value × List UInt8)) (hst : Stab J) (hyl : ∀ T b, b ∈ T → YieldOk Tryd.prog J T b l ALL) (hALL : blocksF (ps.map Prod.snd) = ALL)
    (hinv : ∀ T pre w1, J T pre w1 → InvB pb pv ps w1) (hJ0 : J [] [] W) :
    Calls Tryd.prog 100 [.func (.yield l) #[] #[], .pointer (some ⟨pb, 0, none⟩)].toArray W (ItPost J ALL) := by
  obtain ⟨a, cap, rfl, hlc, hcm, hz⟩ := (hinv _ _ _ hJ0).2.1.form
  have hpbW : pb < W.heap.size := (Array.getElem?_eq_some_iff.1 (hinv _ _ _ hJ0).1).1
  have hmL : cap ≤ 9223372036854775807 := by simp only [maxLen] at hcm; omega
  refine enter (m := 53) (R := Mem W [] [] []) Tryd.func100 rfl rfl (Nat.le_of_ble_eq_true rfl) (Mem.start W) ?_
  refine wpc_seq <| wpc_region ?_
  refine wpl_t (t_box rfl _ rfl) rfl ?_
  intro b2
  refine wpl_nil <| ex_then <| wpc_seq <| wpc_region ?_
  refine wpl_t (t_alloc Tryd.ti170 (v8s (bufF [])) (by rfl)) rfl ?_
  intro b3
  refine wpl_nil <| ex_then <| wpc_seq <| wpc_region ?_
  refine wpl_t (t_alloc Tryd.ti3 _ rfl) rfl ?_
  intro b4
  refine wpl_t0 (t_st1 Tryd.ti3 rfl rfl rfl Nat.zero_lt_one _ rfl) ?_
  intro _
  refine wpl_q (q_pure rfl) rfl <| wpl_nil <| ex_then <| wpc_seq <| wpc_region ?_
  refine wpl_q (q_fn (us := []) (vs := [.pointer (some ⟨b3, 0, none⟩), .pointer (some ⟨b4, 0, none⟩), .pointer (some ⟨b2, 0, none⟩)]) rfl rfl) rfl ?_
  refine wpl_q (q_pure rfl) rfl <| wpl_nil <| ex_then <| wpc_seq <| wpc_seq ?_
  refine wpc_ex (p := ItInv J W [] b3 b4 b2 l) (R' := fun wb => Mem wb [b4, b3, b2] (blkM l [] b3 b4 b2) []) (fun w h => ?_) (fun wb0 hI0 => ?_)
  · have h2 : Mem W [] (blkM l [] b3 b4 b2) [] w := h
    have hlt : ∀ k, k ∈ [b4, b3, b2] → W.heap.size ≤ k ∧ k < w.heap.size := fun k hk => by
      have hk' : k ∈ nums (blkM l [] b3 b4 b2) := hk
      obtain ⟨e, he, hn⟩ := mem_nums.1 hk'
      exact ⟨(h2.new e he k hn).resolve_right zz40, Ent.lt (h2.own e he) hn⟩
    exact ⟨w, ⟨hst [] _ _ _ _ hJ0 (h2.sub .nil .nil) (fun k hk => ⟨.inr (hlt k hk).1, (hlt k hk).2⟩), (hlt b3 zz40).1, (hlt b4 zz40).1, (hlt b2 zz40).1⟩, h2.base⟩
  refine wpc_region ?_
  refine wpl_q (q_load1 Tryd.underlying160 rfl rfl (fun w h => h.cell_oldL (cell_of_heap (hinv _ _ _ hI0.J).1 rfl) (by have := hI0.b; have := hI0.nb; have := hI0.y; simp; omega))) rfl ?_
  refine wpl_q (q_len Tryd.underlying160 rfl) rfl <| wpl_q (q_pure rfl) rfl <| wpl_nil <| ex_then <| wpc_block ?_
  refine wpc_loop (ι := { x : Nat × World // x.1 ≤ ps.length ∧ ItInv J W ((ps.map Prod.snd).take x.1).flatten b3 b4 b2 l x.2 }) (fun x => [(13, .int .i64 (x.1.1 : Nat)), (12, .int .i64 (ps.length : Nat)), (11, .slice a ps.length cap), (6, .func (.func 101) #[] #[.pointer (some ⟨b3, 0, none⟩), .pointer (some ⟨b4, 0, none⟩), .pointer (some ⟨b2, 0, none⟩)]), (5, .int .u64 (lenN (ps.map Prod.snd) x.1.1).toNat), (2, .pointer (some ⟨b2, 0, none⟩)), (3, .pointer (some ⟨b3, 0, none⟩)), (4, .pointer (some ⟨b4, 0, none⟩))]) (fun x => Mem x.1.2 [b4, b3, b2] (blkM l ((ps.map Prod.snd).take x.1.1).flatten b3 b4 b2) []) (fun x => ps.length - x.1.1) ⟨(0, wb0), Nat.zero_le _, hI0⟩ ?_ ?_ ?_
  · exact by repeat (first | exact trivial | refine ⟨rfl, ?_⟩)
  · exact fun w h => h
  · rintro ⟨⟨i, wb⟩, hi, hI⟩; dsimp only
    have hi : i ≤ ps.length := hi
    have hI : ItInv J W ((ps.map Prod.snd).take i).flatten b3 b4 b2 l wb := hI
    have hP := hinv _ _ _ hI.J
    refine wpc_seq <| wpc_region <| wpl_q (q_pure rfl) rfl <| wpl_nil <| ex_then <| wpc_seq ?_
    refine wpc_cond rfl (fun hc14 => ?_) (fun hc14 => ?_)
    ·
      simp only [decide_eq_true_eq] at hc14
      obtain ⟨ad, rfl⟩ : ∃ ad, a = some ad := by
        cases a with
        | none => have := hz rfl; omega
        | some ad => exact ⟨ad, rfl⟩
      obtain ⟨⟨qv, qb⟩, hq⟩ : ∃ q, ps[i]? = some q := ⟨_, List.getElem?_eq_getElem zz12⟩
      have hqm : (qv, qb) ∈ ps := List.mem_of_getElem? hq
      have hq1 : (ps.map Prod.fst)[i]? = some qv := by rw [List.getElem?_map, hq]; rfl
      have hq2 : (ps.map Prod.snd).getD i [] = qb := by rw [List.getD_eq_getElem?_getD, List.getElem?_map, hq]; rfl
      have hfs : ((ps.map Prod.snd).take (i + 1)).flatten = ((ps.map Prod.snd).take i).flatten ++ qb := by rw [take_succ_flatMm _ _ zz50, hq2]
      have hqs : Seen wb.cell? qv qb.length 1 (v8s qb) := hP.2.2 _ hqm
      obtain ⟨aq, capq, rfl, hq3, hq4, hq5⟩ := hqs.form
      have hadb : ad.block < W.heap.size := (hinv _ _ _ hJ0).2.1.block_lt (by intro e; rw [List.map_eq_nil_iff] at e; subst e; exact absurd hqm zz40) ad.block rfl
      have hqbl : ∀ k, (Value.slice aq qb.length capq).ownBlock = some k → v8s qb ≠ [] → k < W.heap.size := fun k hk hne => ((hinv _ _ _ hJ0).2.2 _ hqm).block_lt hne k hk
      have hbW := hI.b; have hnW := hI.nb; have hyW := hI.y
      refine wpc_skip <| ex_then <| wpc_seq <| wpc_block <| wpc_seq <| wpc_region ?_
      refine wpl_q (q_idxS Tryd.underlying160 Tryd.ti34 rfl rfl zz12 zz12 (i) zz12) rfl ?_
      refine wpl_q (q_load1 Tryd.underlying34 rfl rfl (fun w h => h.cell_oldL (hP.2.1.cell hq1) (by rw [addr_block]; simp; omega))) rfl ?_
      refine wpl_q (q_pure rfl) rfl <| wpl_nil <| ex_then <| wpc_seq <| wpc_region <| wpl_q (q_pure rfl) rfl <| wpl_q (q_pure rfl) rfl <| wpl_q (q_len Tryd.underlying34 rfl) rfl <| wpl_q (q64_conv Tryd.underlying3 Tryd.underlying23 rfl) rfl ?_
      refine wpl_q (qop_eq (q64_add rfl rfl) (v := .int .u64 (lenN (ps.map Prod.snd) (i + 1)).toNat) (by rw [lenN, hq2])) rfl ?_
      refine wpl_q (q_pure rfl) rfl <| wpl_nil <| ex_then <| wpc_region <| wpl_q (q_pure rfl) rfl <| wpl_q (q_pure rfl) rfl ?_
      refine wpl_t (t_callG (ι := { u : World // ItInv J W (((ps.map Prod.snd).take i).flatten ++ qb) b3 b4 b2 l u }) (V := fun _ => .tuple #[]) (R' := fun u => Mem u.1 [b4, b3, b2] (blkM l (((ps.map Prod.snd).take i).flatten ++ qb) b3 b4 b2) []) (cap := #[.pointer (some ⟨b3, 0, none⟩), .pointer (some ⟨b4, 0, none⟩), .pointer (some ⟨b2, 0, none⟩)]) rfl Tryd.hb101 rfl fun w h => put_at J W l ALL pb (.slice none 0 0) ps hst hyl (X := []) hI h (hALL ▸ pre_all _ _ (hfs ▸ pre_take _ (i + 1))) (h.seen_oldL (hP.2.2 _ hqm) (fun k hk hne => by have := hqbl k hk hne; simp; omega)) (fun k hk hne => by have := hqbl k hk hne; omega) (fun pre w1 w2 _ hJ2 _ => (hinv _ _ _ hJ2).2.2 _ hqm)) rfl ?_
      intro b24
      refine wpl_nil <| ex_block <| ex_then <| wpc_region ?_
      first | refine wpl_q (qop_eq (q_pure rfl) (congrArg (Value.int .i64) (wk_i64 zz12 zz12))) rfl ?_ | refine wpl_q (q_pure rfl) rfl ?_
      refine wpl_q (q_pure rfl) rfl <| wpl_nil ?_
      refine ex_again ⟨(i + 1, b24.1), by show i + 1 ≤ ps.length; omega, by show ItInv J W ((ps.map Prod.snd).take (i + 1)).flatten b3 b4 b2 l b24.1; rw [hfs]; exact b24.2⟩ ?_ ?_ ?_
      · exact zz9
      · exact fun w h => by
          show Mem b24.1 [b4, b3, b2] (blkM l ((ps.map Prod.snd).take (i + 1)).flatten b3 b4 b2) [] w
          rw [hfs]; exact h
      · show ps.length - (i + 1) < ps.length - i; omega
    ·
      simp only [decide_eq_false_iff_not] at hc14
      obtain rfl : i = ps.length := by omega
      have eall : ((ps.map Prod.snd).take ps.length).flatten = (ps.map Prod.snd).flatten := by rw [List.take_of_length_le zz40]
      rw [eall] at hI
      refine wpc_mono (R' := Mem wb [b4, b3, b2] (blkM l (ps.map Prod.snd).flatten b3 b4 b2) []) (fun w h => by rw [← eall]; exact h) ?_
      refine wpc_exit ?_
      refine ex_then_exit ?_
      refine ex_then_exit ?_
      refine ex_block_hit ?_
      refine ex_then <| wpc_seq <| wpc_region <| wpl_q (q_pure rfl) rfl ?_
      refine wpl_t (t_buildSlice (v8s [128]) Tryd.underlying34 Tryd.ti5 rfl zz19 zz19 rfl rfl rfl) rfl ?_
      intro b27
      refine wpl_t (t_callG (ι := { u : World // ItInv J W ((ps.map Prod.snd).flatten ++ [128]) b3 b4 b2 l u }) (V := fun _ => .tuple #[]) (R' := fun u => Mem u.1 [b4, b3, b2] (blkM l ((ps.map Prod.snd).flatten ++ [128]) b3 b4 b2) []) (cap := #[.pointer (some ⟨b3, 0, none⟩), .pointer (some ⟨b4, 0, none⟩), .pointer (some ⟨b2, 0, none⟩)]) rfl Tryd.hb101 rfl fun w h => put_row J W l ALL pb (.slice none 0 0) ps hst hyl hI h (hALL ▸ pre_all _ _ (cF_pre _))) rfl ?_
      intro b28
      refine wpl_nil <| ex_then ?_
      refine wpc_cut { u : World // ItInv J W (cF (ps.map Prod.snd).flatten) b3 b4 b2 l u } (fun _ => [(5, .int .u64 (lenN (ps.map Prod.snd) ps.length).toNat), (2, .pointer (some ⟨b2, 0, none⟩)), (3, .pointer (some ⟨b3, 0, none⟩)), (4, .pointer (some ⟨b4, 0, none⟩))]) (fun u => Mem u.1 [b4, b3, b2] (blkM l (cF (ps.map Prod.snd).flatten) b3 b4 b2) []) ?_ ?_
      ·
        refine wpc_seq ?_
        obtain ⟨wb1, hI1⟩ := b28
        refine wpc_mono (R' := Mem wb1 [b4, b3, b2] [.blk b4 3 [.int .i64 ((((ps.map Prod.snd).flatten ++ [(128 : UInt8)]).length % 64 : Nat) : Int)], .blk b3 170 (v8s (bufF ((ps.map Prod.snd).flatten ++ [(128 : UInt8)]))), .blk b2 168 [.func (.yield l) #[] #[]]] []) (fun w h => h) ?_
        refine wpc_region <| wpl_q (q_ld Tryd.underlying3 rfl rfl rfl) rfl <| wpl_q (q_pure rfl) rfl <| wpl_nil <| ex_then ?_
        refine wpc_cond rfl (fun hc30 => ?_) (fun hc30 => ?_)
        ·
          simp only [decide_eq_true_eq] at hc30
          have hm64 : ((ps.map Prod.snd).flatten ++ [(128 : UInt8)]).length % 64 < 64 := Nat.mod_lt _ zz19
          have ecf := cF_full (ps.map Prod.snd).flatten zz12
          refine wpc_region <| wpl_q (q_pure rfl) rfl <| wpl_q (q_ld Tryd.underlying3 rfl rfl rfl) rfl ?_
          first | refine wpl_q (qop_eq (q_pure rfl) (congrArg (Value.int .i64) (wk_i64 zz12 zz12))) rfl ?_ | refine wpl_q (q_pure rfl) rfl ?_
          refine wpl_t (t_makeSlice Tryd.underlying34 Tryd.ti5 rfl rfl zz12 (Int.le_refl _) zz12 zz12 (64 - ((ps.map Prod.snd).flatten ++ [(128 : UInt8)]).length % 64) (64 - ((ps.map Prod.snd).flatten ++ [(128 : UInt8)]).length % 64) zz12 zz12 (v8s (List.replicate (64 - ((ps.map Prod.snd).flatten ++ [(128 : UInt8)]).length % 64) (0 : UInt8))) rfl (zeros_flat _)) rfl ?_
          intro b34
          refine wpl_t (t_callG (ι := { u : World // ItInv J W (((ps.map Prod.snd).flatten ++ [(128 : UInt8)]) ++ List.replicate (64 - ((ps.map Prod.snd).flatten ++ [(128 : UInt8)]).length % 64) (0 : UInt8)) b3 b4 b2 l u }) (V := fun _ => .tuple #[]) (R' := fun u => Mem u.1 [b4, b3, b2] (blkM l (((ps.map Prod.snd).flatten ++ [(128 : UInt8)]) ++ List.replicate (64 - ((ps.map Prod.snd).flatten ++ [(128 : UInt8)]).length % 64) (0 : UInt8)) b3 b4 b2) []) (cap := #[.pointer (some ⟨b3, 0, none⟩), .pointer (some ⟨b4, 0, none⟩), .pointer (some ⟨b2, 0, none⟩)]) rfl Tryd.hb101 rfl fun w h => put_row J W l ALL pb (.slice none 0 0) ps hst hyl hI1 h (hALL ▸ pre_all _ _ ⟨[], by rw [List.append_nil]; exact ecf.symm⟩)) rfl ?_
          intro b35
          have HI : ItInv J W (cF (ps.map Prod.snd).flatten) b3 b4 b2 l b35.1 := by rw [ecf]; exact b35.2
          refine wpl_nil ?_
          refine ex_mid ⟨_, HI⟩ ?_ ?_
          · exact zz9
          · exact fun w h => mem_c ecf h
        ·
          simp only [decide_eq_false_iff_not] at hc30
          have ecf := cF_room (ps.map Prod.snd).flatten zz12
          have HI : ItInv J W (cF (ps.map Prod.snd).flatten) b3 b4 b2 l wb1 := by rw [ecf]; exact hI1
          refine wpc_skip ?_
          refine ex_mid ⟨_, HI⟩ ?_ ?_
          · exact zz9
          · exact fun w h => mem_c ecf h
      ·
        rintro ⟨wb2, hI2⟩
        dsimp only
        refine wpc_seq <| wpc_region <| wpl_q (q_pure rfl) rfl ?_
        refine wpl_q (q64_mul (b := 8) rfl rfl) rfl ?_
        refine wpl_q (q_pure rfl) rfl <| wpl_nil <| ex_then <| wpc_seq <| wpc_seq <| wpc_region <| wpl_q (q_pure rfl) rfl <| wpl_nil <| ex_then <| wpc_block ?_
        refine wpc_loop (ι := { j : Nat // j ≤ 8 }) (fun j => [(38, .int .i64 (j.1 : Nat)), (5, .int .u64 (lenN (ps.map Prod.snd) ps.length * 8).toNat), (2, .pointer (some ⟨b2, 0, none⟩)), (3, .pointer (some ⟨b3, 0, none⟩)), (4, .pointer (some ⟨b4, 0, none⟩))]) (fun j => Mem wb2 [b4, b3, b2] [.blk b4 3 [.int .i64 (((cF (ps.map Prod.snd).flatten).length % 64 : Nat) : Int)], .blk b3 170 (v8s (setLen (bufF (cF (ps.map Prod.snd).flatten)) (lenN (ps.map Prod.snd) ps.length * 8) j.1)), .blk b2 168 [.func (.yield l) #[] #[]]] []) (fun j => 8 - j.1) ⟨0, zz12⟩ ?_ ?_ ?_
        · exact by repeat (first | exact trivial | refine ⟨rfl, ?_⟩)
        · exact fun w h => h
        · rintro ⟨j, hj⟩; dsimp only
          have hsl := (setLen_length (bufF (cF (ps.map Prod.snd).flatten)) (lenN (ps.map Prod.snd) ps.length * 8) j).trans (bufF_length _)
          refine wpc_seq <| wpc_region <| wpl_q (q_pure rfl) rfl <| wpl_nil <| ex_then <| wpc_seq ?_
          refine wpc_cond rfl (fun hc39 => ?_) (fun hc39 => ?_)
          ·
            simp only [decide_eq_true_eq, decide_eq_false_iff_not, Bool.and_eq_true, Bool.or_eq_true, beq_iff_eq, bne_iff_ne, ne_eq] at hc39
            refine wpc_skip <| ex_then <| wpc_seq <| wpc_block <| wpc_seq <| wpc_region <| wpl_q (q_pure rfl) rfl <| wpl_q (q_pure rfl) rfl <| wpl_nil <| ex_then <| wpc_region <| wpl_q (q_pure rfl) rfl ?_
            first | refine wpl_q (qop_eq (q_pure rfl) (congrArg (Value.int .i64) (wk_i64 zz12 zz12))) rfl ?_ | refine wpl_q (q_pure rfl) rfl ?_
            refine wpl_q (q_pure rfl) rfl <| wpl_q (q_pure rfl) rfl ?_
            first | refine wpl_q (qop_eq (q_pure rfl) (congrArg (Value.int .i64) (wk_i64 zz12 zz12))) rfl ?_ | refine wpl_q (q_pure rfl) rfl ?_
            first | refine wpl_q (qop_eq (q_pure rfl) (congrArg (Value.int .i64) (wk_i64 zz12 zz12))) rfl ?_ | refine wpl_q (q_pure rfl) rfl ?_
            refine wpl_q (q64_shr rfl rfl zz12 (56 - 8 * j) zz12) rfl ?_
            refine wpl_q (q8_conv Tryd.underlying23 Tryd.underlying5 rfl) rfl ?_
            refine wpl_q (q_idxA Tryd.underlying170 Tryd.ti5 rfl rfl zz12 zz12 (56 + j) zz12) rfl ?_
            refine wpl_t0 (t_st1 Tryd.ti5 rfl rfl rfl zz36 _ (by first | exact v8s_set _ | rfl)) ?_
            intro _
            refine wpl_nil <| ex_block <| ex_then <| wpc_region ?_
            first | refine wpl_q (qop_eq (q_pure rfl) (congrArg (Value.int .i64) (wk_i64 zz12 zz12))) rfl ?_ | refine wpl_q (q_pure rfl) rfl ?_
            refine wpl_q (q_pure rfl) rfl <| wpl_nil ?_
            refine ex_again ⟨j + 1, zz12⟩ ?_ ?_ ?_
            · exact zz9
            · exact fun w h => h
            · show 8 - (j + 1) < 8 - j; omega
          ·
            simp only [decide_eq_false_iff_not] at hc39
            obtain rfl : j = 8 := by omega
            refine wpc_exit ?_
            refine ex_then_exit ?_
            refine ex_then_exit ?_
            refine ex_block_hit ?_
            refine ex_then ?_
            refine wpc_region_y ?_
            refine wpli_q open_wide (q_ld Tryd.underlying168 rfl rfl rfl) rfl ?_
            refine wpli_yield (l := l) (ι := { u : World // ∃ T, J T ALL u }) (V := fun _ => .bool true) (R' := fun u w => w = u.1) rfl rfl ?_ rfl fun u => ?_
            · exact fun w h => last_yield J W l ALL ps hst hyl hALL hI2 h
            refine wpli_nil ?_
            refine ret0 (.inr rfl) rfl ?_
            exact fun w h => ⟨⟨_, rfl⟩, h ▸ u.2⟩
end Go.Proofs.YtgnablliekgbgaaDoor
namespace Go.Proofs.YtgnablliekgbgaaDoor
open Go Go.PL Go.RowKit
def initS : List UInt32 := [1779033703, 3144134277, 1013904242, 2773480762, 1359893119, 2600822924, 528734635, 1541459225]
def stF2 (bl : List (List UInt8)) : List UInt32 := bl.foldl addF initS
theorem stF2_length (bl : List (List UInt8)) : (stF2 bl).length = 8 := by
  suffices h : ∀ (bl : List (List UInt8)) (s : List UInt32), s.length = 8 → (bl.foldl addF s).length = 8 from h bl initS rfl
  intro bl
  induction bl with
  | nil => exact fun s h => h
  | cons x r ih => exact fun s h => ih _ ((addF_length s x).trans h)
def outN (st : List UInt32) : Nat → List UInt8
  | 0 => List.replicate 32 0
  | i + 1 => (outN st i).set i (of8 (sr32 (st.getD (i / 4) 0) (24 - 8 * (i % 4))).toNat)
theorem outN_length (st : List UInt32) : ∀ i, (outN st i).length = 32
  | 0 => rfl
  | i + 1 => by simp [outN, outN_length st i]
def joinF (ps : List (List UInt8)) : List UInt8 := outN (stF2 (blocksF ps)) 32
theorem blocksF_64 (ps : List (List UInt8)) : ∀ x ∈ blocksF ps, x.length = 64 := by
  intro x hx
  unfold blocksF at hx
  rcases List.mem_append.1 hx with hx | hx
  · unfold chunksF at hx
    obtain ⟨i, hi, rfl⟩ := List.mem_map.1 hx
    have hi' := List.mem_range.1 hi
    rw [List.length_take, List.length_drop]
    omega
  · simp at hx
    subst hx
    rw [setLen_length, bufF_length]
def joinM (pb b3 b2 : Nat) (pv : Value) (pre : List (List UInt8)) : List Ent := [.blk pb 160 [pv], .blk b3 162 (v32s (stF2 pre)), .blk b2 156 (v8s (List.replicate 32 0))]
theorem join_it (w : World) (pb : Nat) (pv : Value) (ps : List (Value × List UInt8)) : IterOk Tryd.prog 100 #[.pointer (some ⟨pb, 0, none⟩)] encBMm AtB (InvB pb pv ps) (blocksF (ps.map Prod.snd)) w := by
  intro l J hst hinv hy hJ0
  exact iter J w l _ pb pv ps hst (fun T b hb pre x w1 hJ hpre hh => hy T pre x b w1 hJ hpre ⟨hb, hh⟩) rfl hinv hJ0
theorem atB_stab (T : List Nat) (x : List UInt8) (b : Nat) (w w' : World) (h : AtB T x b w) (h2 : ∀ j, j ∈ T → w'.heap[j]? = w.heap[j]?) : AtB T x b w' := ⟨h.1, (h2 b h.1).trans h.2⟩
theorem inv_join {w0 w : World} {pb b3 b2 : Nat} {pv : Value} {ps : List (Value × List UInt8)} {pre : List (List UInt8)} (hP : Parts w0.cell? pv ps) (h : Mem w0 [] (joinM pb b3 b2 pv pre) [] w) : InvB pb pv ps w :=
  ⟨h.own (.blk pb 160 [pv]) (by simp [joinM]), h.seen_old hP.1, fun q hq => h.seen_old (hP.2 q hq)⟩
theorem blocks (pv : Value) (hc : pv.cells.toList = [pv]) (w : World) :
    Calls Tryd.prog 98 [pv].toArray w (Gives w (fun pb : Nat => .func (.func 100) #[] #[.pointer (some ⟨pb, 0, none⟩)]) (fun pb => [.blk pb 160 [pv]]) (fun _ => [])) := by
  refine enter (m := 4) (R := Mem w [] [] []) Tryd.func98 rfl rfl (Nat.le_of_ble_eq_true rfl) (Mem.start w) ?_
  refine wpc_seq <| wpc_region ?_
  refine wpl_t (t_box rfl [pv] hc) rfl ?_
  intro b1
  refine wpl_q (q_pure rfl) rfl <| wpl_nil <| ex_then <| wpc_seq <| wpc_region ?_
  refine wpl_q (q_fn (us := []) (vs := [.pointer (some ⟨b1, 0, none⟩)]) rfl rfl) rfl ?_
  refine wpl_q (q_pure rfl) rfl <| wpl_nil <| ex_then <| wpc_ret ?_
  refine ret1 (.inl rfl) rfl rfl ?_
  exact fun w h => ⟨b1, rfl, h.below, h.made (Sub.refl _) .nil⟩
theorem quo4 (i : Nat) (h : i ≤ 64) : wk .i64 (Int.tdiv (i : Int) 4) = ((i / 4 : Nat) : Int) := by
  have e : Int.tdiv (i : Int) 4 = ((i / 4 : Nat) : Int) := rfl
  rw [e, wk_i64 zz12 zz12]
theorem join (pv : Value) (ps : List (Value × List UInt8)) (w : World) (hP : Parts w.cell? pv ps) (hro : CellsAt w.cell? ⟨0, 0, none⟩ (v32s rootsL)) (hsz : 0 < w.heap.size) :
    Calls Tryd.prog 96 [pv].toArray w (Pur w (.agg (v8s (joinF (ps.map Prod.snd))).toArray)) := by
  have hcell : pv.cells.toList = [pv] := by obtain ⟨_, _, rfl, _⟩ := hP.1.form; rfl
  refine enterM (m := 30) (R := Mem w [] [] []) Tryd.func96 rfl rfl (Nat.le_of_ble_eq_true rfl) (Mem.start w) ?_
  refine wpc_seq <| wpc_region ?_
  refine wpl_t (t_alloc Tryd.ti156 (v8s (List.replicate 32 0)) (by rfl)) rfl ?_
  intro b2
  refine wpl_nil <| ex_then <| wpc_seq <| wpc_region <| wpl_q (q_buildFull (v32s initS) Tryd.underlying162 Tryd.ti162 Tryd.ti159 rfl rfl (v32s_one _) rfl) rfl ?_
  refine wpl_t (t_alloc Tryd.ti162 (v32s (List.replicate 8 0)) (by rfl)) rfl ?_
  intro b3
  refine wpl_t0 (t_stA Tryd.ti162 rfl rfl rfl (v32s_one _) rfl) ?_
  intro _
  refine wpl_nil <| ex_then <| wpc_seq <| wpc_seq <| wpc_region <| wpl_q (q_pure rfl) rfl ?_
  refine wpl_t (t_call Tryd.hb98 rfl fun w h => blocks pv hcell w) rfl ?_
  intro b9
  refine wpl_nil <| ex_then <| wpc_block ?_
  refine wpc_range (xs := blocksF (ps.map Prod.snd)) (At := AtB) (Inv := InvB b9 pv ps) (encs := encBMm) (joinM b9 b3 b2 pv) (fun x b => [(4, .pointer (some ⟨b, 0, none⟩)), (3, .pointer (some ⟨b3, 0, none⟩)), (2, .pointer (some ⟨b2, 0, none⟩))]) rfl Tryd.hb100 (fun w h => join_it w b9 pv ps) (fun pre w h => inv_join hP h) atB_stab (fun _ _ => rfl) zz19 ?_ ?_ ?_
  · intro l x b R K hK
    refine wpci_region ?_
    refine wpli_q (open_round l) (q_pure rfl) rfl ?_
    refine wpli_nil ?_
    exact ex_assign hK zz9
  · intro l pre x b w1 T hpre hm hat hT
    have hx : x.length = 64 := blocksF_64 _ x (hpre.subset zz40)
    have hnew : ∀ k, k ∈ nums (joinM b9 b3 b2 pv pre) → w.heap.size ≤ k := fun k hk => by
      obtain ⟨e, he, hn⟩ := mem_nums.1 hk
      exact (hm.new e he k hn).resolve_right zz40
    have hbn : b ∉ nums (joinM b9 b3 b2 pv pre) := fun hk => by
      obtain ⟨e, he, hn⟩ := mem_nums.1 hk
      exact inM_not (hT b hat.1).2 e he hn
    have h0n : 0 ∉ nums (joinM b9 b3 b2 pv pre) := fun hk => by have := hnew 0 hk; omega
    have hb3 : b3 ∈ nums (joinM b9 b3 b2 pv pre) := by simp [joinM, nums, Ent.num]
    show WPCI _ _ _ _ (Mem w1 (nums (joinM b9 b3 b2 pv pre)) [.blk b9 160 [pv], .blk b3 162 (v32s (stF2 pre)), .blk b2 156 (v8s (List.replicate 32 0))] []) _ _
    refine wpci_block ?_
    refine wpci_region ?_
    refine wpli_q (open_round l) (q_pure rfl) rfl ?_
    have hst : stF2 (pre ++ [x]) = addF (stF2 pre) x := by simp [stF2]
    refine wpli_t (open_round l) (t_turn1 b3 Tryd.hb99 rfl fun w' h hs => add b3 b (stF2 pre) x (stF2_length _) hx w' hs (h.at_oldL (fun j v hj => by rw [add_lit, Nat.zero_add]; exact cell_of_heap hat.2 (by simpa using hj)) hbn) (fun e => hbn (e ▸ hb3)) (h.at_oldL (hm.at_old hro) h0n) (fun e => h0n (e ▸ hb3))) rfl fun _ => ?_
    refine wpli_nil ?_
    refine ex_block ?_
    exact ex_round fun _ h => by
      have e : joinM b9 b3 b2 pv (pre ++ [x]) = [.blk b9 160 [pv], .blk b3 162 (v32s (addF (stF2 pre) x)), .blk b2 156 (v8s (List.replicate 32 0))] := by rw [joinM, hst]
      rw [e]; exact h
  intro D
  refine ex_block <| ex_then <| wpc_seq <| wpc_region ?_
  refine wpl_t (t_alloc Tryd.ti156 (v8s (outN (stF2 (blocksF (ps.map Prod.snd))) 0)) (by rfl)) rfl ?_
  intro b5
  refine wpl_nil <| ex_then <| wpc_seq <| wpc_seq <| wpc_region <| wpl_q (q_pure rfl) rfl <| wpl_nil <| ex_then <| wpc_block ?_
  refine wpc_loop (ι := { i : Nat // i ≤ 32 }) (fun i => [(13, .int .i64 (i.1 : Nat)), (5, .pointer (some ⟨b5, 0, none⟩)), (3, .pointer (some ⟨b3, 0, none⟩)), (2, .pointer (some ⟨b2, 0, none⟩))]) (fun i => Mem w [] (.blk b5 156 (v8s (outN (stF2 (blocksF (ps.map Prod.snd))) i.1)) :: .obj D (.deferred (some [])) :: joinM b9 b3 b2 pv (blocksF (ps.map Prod.snd))) []) (fun i => 32 - i.1) ⟨0, zz12⟩ ?_ ?_ ?_
  · exact by repeat (first | exact trivial | refine ⟨rfl, ?_⟩)
  · exact fun w h => h
  · rintro ⟨i, hi⟩; dsimp only
    have hol := outN_length (stF2 (blocksF (ps.map Prod.snd))) i
    have hsl := stF2_length (blocksF (ps.map Prod.snd))
    simp only [joinM]
    refine wpc_seq <| wpc_region <| wpl_q (q_pure rfl) rfl <| wpl_nil <| ex_then <| wpc_seq ?_
    refine wpc_cond rfl (fun hc14 => ?_) (fun hc14 => ?_)
    ·
      simp only [decide_eq_true_eq, decide_eq_false_iff_not, Bool.and_eq_true, Bool.or_eq_true, beq_iff_eq, bne_iff_ne, ne_eq] at hc14
      refine wpc_skip <| ex_then <| wpc_seq <| wpc_block <| wpc_seq <| wpc_region <| wpl_q (q_pure rfl) rfl <| wpl_q (q_pure rfl) rfl <| wpl_nil <| ex_then <| wpc_region <| wpl_q (q_pure rfl) rfl ?_
      refine wpl_q (q_pure rfl) rfl ?_
      refine wpl_q (qop_eq (q_quo rfl rfl zz19) (v := .int .i64 ((i / 4 : Nat) : Int)) (congrArg (Value.int .i64) (quo4 i zz12))) rfl ?_
      refine wpl_q (q_idxA Tryd.underlying162 Tryd.ti159 rfl rfl zz12 zz12 (i / 4) zz12) rfl ?_
      refine wpl_q (q_ld Tryd.underlying159 rfl rfl zz25) rfl ?_
      refine wpl_q (q_pure rfl) rfl ?_
      refine wpl_q (qop_eq (q_rem rfl rfl zz19) (v := .int .i64 ((i % 4 : Nat) : Int)) rfl) rfl ?_
      first | refine wpl_q (qop_eq (q_pure rfl) (congrArg (Value.int .i64) (wk_i64 zz12 zz12))) rfl ?_ | refine wpl_q (q_pure rfl) rfl ?_
      first | refine wpl_q (qop_eq (q_pure rfl) (congrArg (Value.int .i64) (wk_i64 zz12 zz12))) rfl ?_ | refine wpl_q (q_pure rfl) rfl ?_
      refine wpl_q (q32_shr rfl rfl zz12 (24 - 8 * (i % 4)) zz12) rfl ?_
      refine wpl_q (q8_conv Tryd.underlying159 Tryd.underlying5 rfl) rfl ?_
      refine wpl_q (q_idxA Tryd.underlying156 Tryd.ti5 rfl rfl zz12 zz12 (i) zz12) rfl ?_
      refine wpl_t0 (t_st1 Tryd.ti5 rfl rfl rfl zz36 _ (by first | exact v8s_set _ | rfl)) ?_
      intro _
      refine wpl_nil <| ex_block <| ex_then <| wpc_region ?_
      first | refine wpl_q (qop_eq (q_pure rfl) (congrArg (Value.int .i64) (wk_i64 zz12 zz12))) rfl ?_ | refine wpl_q (q_pure rfl) rfl ?_
      refine wpl_q (q_pure rfl) rfl <| wpl_nil ?_
      refine ex_again ⟨i + 1, zz12⟩ ?_ ?_ ?_
      · exact zz9
      · exact fun w h => h
      · show 32 - (i + 1) < 32 - i; omega
    ·
      simp only [decide_eq_false_iff_not] at hc14
      obtain rfl : i = 32 := by omega
      refine wpc_exit ?_
      refine ex_then_exit ?_
      refine ex_then_exit ?_
      refine ex_block_hit ?_
      refine ex_then <| wpc_seq <| wpc_region <| wpl_q (q_ldN Tryd.underlying156 rfl Tryd.ti156 rfl ((v8s_length _).trans (outN_length _ _))) rfl ?_
      refine wpl_t0 (t_stA Tryd.ti156 rfl rfl ((v8s_length _).trans (outN_length _ _)) (v8s_one _) ((v8s_length _).trans rfl)) ?_
      intro _
      refine wpl_nil <| ex_then <| wpc_ret ?_
      refine ex_mark (.inl rfl) (.there .here) ?_
      refine retv1 (.inl rfl) rfl (rv_agg Tryd.underlying156 rfl Tryd.ti156 rfl (fun w h => h.cells_blk zz4) (by rw [v8s_length]; exact outN_length _ _)) ?_
      exact fun w h => ⟨rfl, h.below⟩
end Go.Proofs.YtgnablliekgbgaaDoor
namespace Go.Proofs.YtgnablliekgbgaaDoor
open Go Go.PL Go.RowKit
theorem joinF_length (ps : List (List UInt8)) : (joinF ps).length = 32 := outN_length _ _
theorem parts_one {w0 w : World} {M : List Ent} {S : List Fact} {g : Nat} {bv : Value} {bs : List UInt8} (h : Mem w0 [] (.row (.slice (some ⟨g, 0, none⟩) 1 1) 1 34 1 [bv] :: M) S w) (hb : Seen w0.cell? bv bs.length 1 (v8s bs)) : Parts w.cell? (.slice (some ⟨g, 0, none⟩) 1 1) [(bv, bs)] :=
  ⟨h.seen_row (List.mem_cons_self ..), fun q hq => by simp at hq; subst hq; exact h.seen_old hb⟩
theorem short (bv : Value) (bs : List UInt8) (w : World) (hb : Seen w.cell? bv bs.length 1 (v8s bs)) (hro : CellsAt w.cell? ⟨0, 0, none⟩ (v32s rootsL)) (hsz : 0 < w.heap.size) :
    Calls Tryd.prog 85 [bv].toArray w (Pur w (.agg (v8s ((joinF [bs]).take 16)).toArray)) := by
  refine enter (m := 10) (R := Mem w [] [] []) Tryd.func85 rfl rfl (Nat.le_of_ble_eq_true rfl) (Mem.start w) ?_
  refine wpc_seq <| wpc_region ?_
  refine wpl_t (t_alloc Tryd.ti41 (v8s (List.replicate 16 0)) (by rfl)) rfl ?_
  intro b2
  refine wpl_nil <| ex_then <| wpc_seq <| wpc_region <| wpl_q (q_pure rfl) rfl ?_
  refine wpl_t (t_buildSlice [bv] Tryd.underlying160 Tryd.ti34 rfl zz19 zz19 rfl (by obtain ⟨_, _, rfl, _⟩ := hb.form; rfl) rfl) rfl ?_
  intro b5
  refine wpl_t (t_pur Tryd.hb96 rfl fun w' h => join _ [(bv, bs)] w' (parts_one h hb) (h.at_old hro) (Nat.lt_of_lt_of_le hsz h.size)) rfl ?_
  intro b6
  refine wpl_t (t_alloc Tryd.ti156 (v8s (List.replicate 32 0)) (by rfl)) rfl ?_
  intro b3
  refine wpl_t0 (t_stA Tryd.ti156 rfl rfl ((v8s_length _).trans (joinF_length _)) (v8s_one _) ((v8s_length _).trans rfl)) ?_
  intro _
  refine wpl_nil <| ex_then <| wpc_seq <| wpc_region ?_
  refine wpl_q (q_ar_h Tryd.underlying156 Tryd.ti5 rfl rfl zz19 zz19 16 rfl) rfl ?_
  refine wpl_q (q_s2a Tryd.underlying41 rfl zz19) rfl ?_
  refine wpl_q (q_ldP Tryd.underlying41 rfl Tryd.ti41 rfl (v8s ((joinF [bs]).take 16)) (by rw [List.drop_zero, v8s_take]; rfl) (by rw [v8s_length, List.length_take, joinF_length]; rfl)) rfl ?_
  refine wpl_t0 (t_stA Tryd.ti41 rfl rfl (by rw [v8s_length, List.length_take, joinF_length]; rfl) (v8s_one _) ((v8s_length _).trans rfl)) ?_
  intro _
  refine wpl_nil <| ex_then <| wpc_ret ?_
  refine retv1 (.inl rfl) rfl (rv_agg Tryd.underlying41 rfl Tryd.ti41 rfl (fun w h => h.cells_blk zz4) (by rw [v8s_length, List.length_take, joinF_length]; rfl)) ?_
  exact fun w h => ⟨rfl, h.below⟩
end Go.Proofs.YtgnablliekgbgaaDoor
namespace Go.Proofs.YtgnablliekgbgaaDoor
open Go Go.PL Go.RowKit
def rotR (x : UInt32) (k : Nat) : UInt32 := sr32 x k ||| sl32 x (32 - k)
def zc (m : Nat) : Nat := (120 - (m + 1) % 64) % 64
def lenBMm (x : UInt64) : Nat → List UInt8
  | 0 => []
  | j + 1 => lenBMm x j ++ [of8 (sr64 x (8 * (7 - j))).toNat]
theorem lenB_lengthMm (x : UInt64) : ∀ j, (lenBMm x j).length = j
  | 0 => rfl
  | j + 1 => by simp [lenBMm, lenB_lengthMm x j]
def padF (bs : List UInt8) : List UInt8 := (bs ++ [128] ++ List.replicate (zc bs.length) 0) ++ lenBMm (of64 bs.length * 8) 8
end Go.Proofs.YtgnablliekgbgaaDoor
namespace Go.Proofs.YtgnablliekgbgaaDoor
open Go Go.PL Go.RowKit
def word4 (bs : List UInt8) (i : Nat) : Nat → UInt32
  | 0 => 0
  | j + 1 => word4 bs i j * 256 + of32 (bs.getD (4 * i + j) 0).toNat
theorem or_add (x y k : Nat) (h : y < 2 ^ k) : x * 2 ^ k ||| y = x * 2 ^ k + y := by rw [Nat.mul_comm, ← Nat.two_pow_add_eq_or_of_lt h]
theorem nat_split (a b c d : Nat) (hb : b < 256) (hc : c < 256) (hd : d < 256) : a * 16777216 ||| b * 65536 ||| c * 256 ||| d = ((a * 256 + b) * 256 + c) * 256 + d := by
  have h1 := or_add a (b * 65536) 24 zz12
  have h2 := or_add (a * 256 + b) (c * 256) 16 zz12
  have h3 := or_add ((a * 256 + b) * 256 + c) d 8 zz12
  have e1 : a * 16777216 ||| b * 65536 = (a * 256 + b) * 65536 := by
    have : a * 16777216 ||| b * 65536 = a * 16777216 + b * 65536 := h1
    rw [this]; omega
  have e2 : (a * 256 + b) * 65536 ||| c * 256 = ((a * 256 + b) * 256 + c) * 256 := by
    have : (a * 256 + b) * 65536 ||| c * 256 = (a * 256 + b) * 65536 + c * 256 := h2
    rw [this]; omega
  rw [e1, e2]; exact h3
theorem u32_split (a b c d : UInt8) : (((0 * 256 + of32 a.toNat) * 256 + of32 b.toNat) * 256 + of32 c.toNat) * 256 + of32 d.toNat =
    sl32 (of32 a.toNat) 24 ||| sl32 (of32 b.toNat) 16 ||| sl32 (of32 c.toNat) 8 ||| of32 d.toNat := by
  have e : ∀ x : UInt8, (of32 (x.toNat : Int)).toNat = x.toNat := fun x => by
    have := x.toNat_lt
    have h := of32_toNat (x.toNat : Int)
    omega
  have ha := a.toNat_lt; have hb := b.toNat_lt; have hc := c.toNat_lt; have hd := d.toNat_lt
  have hs : ∀ (x : UInt8) (k : Nat), k ≤ 24 → (sl32 (of32 x.toNat) k).toNat = x.toNat * 2 ^ k := fun x k hk => by
    have hx := x.toNat_lt
    unfold sl32
    rw [e, UInt32.toNat_ofNat']
    have h1 : 2 ^ k ≤ 2 ^ 24 := Nat.pow_le_pow_right zz12 hk
    have h2 : x.toNat * 2 ^ k ≤ 255 * 2 ^ 24 := Nat.mul_le_mul zz12 h1
    have hm : min k 32 = k := by omega
    rw [hm]
    exact Nat.mod_eq_of_lt zz12
  apply UInt32.toNat_inj.1
  simp only [UInt32.toNat_or, hs _ 24 zz12, hs _ 16 zz12, hs _ 8 zz12, UInt32.toNat_add, UInt32.toNat_mul, e]
  have := nat_split a.toNat b.toNat c.toNat d.toNat zz12 zz12 zz12
  have e2 : a.toNat * 2 ^ 24 ||| b.toNat * 2 ^ 16 ||| c.toNat * 2 ^ 8 ||| d.toNat = ((a.toNat * 256 + b.toNat) * 256 + c.toNat) * 256 + d.toNat := this
  rw [e2]
  have z : (0 : UInt32).toNat = 0 := rfl
  have z2 : (256 : UInt32).toNat = 256 := rfl
  rw [z, z2]
  omega
theorem word4_eq (bs : List UInt8) (i : Nat) : word4 bs i 4 = wordF bs i := u32_split _ _ _ _
theorem rotR_eq (x : UInt32) (k : Nat) (h1 : 1 ≤ k) (h2 : k ≤ 31) : rotR x k = rotlF x (-(k : Int)) := by
  have e : (of64 (-(k : Int)) &&& 31).toNat = 32 - k := by
    have h := of64_toNat (-(k : Int))
    have h3 : (of64 (-(k : Int))).toNat = 18446744073709551616 - k := by omega
    have h4 : (of64 (-(k : Int)) &&& 31).toNat = (of64 (-(k : Int))).toNat % 32 := by
      rw [UInt64.toNat_and]; exact Nat.and_two_pow_sub_one_eq_mod _ 5
    rw [h4, h3]; omega
  have e2 : (32 - (of64 (-(k : Int)) &&& 31)).toNat = k := by
    rw [UInt64.toNat_sub, e]; simp; omega
  unfold rotR rotlF
  rw [e, e2]
  simp only [Int.toNat_natCast]
  apply UInt32.eq_of_toBitVec_eq
  simp only [UInt32.toBitVec_or]
  rw [BitVec.or_comm]
def sumF (bs : List UInt8) : List UInt8 := outN (stF2 (chunksF (padF bs))) 32
theorem sumF_length (bs : List UInt8) : (sumF bs).length = 32 := outN_length _ _
end Go.Proofs.YtgnablliekgbgaaDoor
namespace Go.Proofs.YtgnablliekgbgaaDoor
open Go Go.PL Go.RowKit
theorem lenN_eq (ps : List (List UInt8)) : ∀ i, i ≤ ps.length → lenN ps i = of64 ((ps.take i).flatten.length : Nat)
  | 0, _ => by simp [lenN, of64]
  | i + 1, h => by
    rw [lenN, lenN_eq ps i zz12, take_succ_flatMm ps i zz12, List.length_append]
    apply UInt64.toNat_inj.1
    have h1 := of64_toNat (((ps.take i).flatten.length : Nat) : Int)
    have h2 := of64_toNat (((ps.getD i []).length : Nat) : Int)
    have h3 := of64_toNat ((((ps.take i).flatten.length + (ps.getD i []).length : Nat) : Nat) : Int)
    rw [UInt64.toNat_add]
    omega
theorem setLen_eq (buf : List UInt8) (x : UInt64) (h : buf.length = 64) : ∀ i, i ≤ 8 → setLen buf x i = buf.take 56 ++ lenBMm x i ++ buf.drop (56 + i)
  | 0, _ => by simp [setLen, lenBMm]
  | i + 1, hi => by
    rw [setLen, setLen_eq buf x h i zz12]
    have hl : (buf.take 56 ++ lenBMm x i).length = 56 + i := by simp [lenB_lengthMm]; omega
    have hd : buf.drop (56 + i) = buf.getD (56 + i) 0 :: buf.drop (56 + (i + 1)) := by
      rw [List.drop_eq_getElem_cons zz12, List.getD_eq_getElem?_getD, List.getElem?_eq_getElem zz12]; rfl
    rw [List.set_append_right (56 + i) _ zz12, hl, Nat.sub_self, hd, List.set_cons_zero, lenBMm]
    simp [show 56 - 8 * i = 8 * (7 - i) from zz12]
theorem blocks_pad (ps : List (List UInt8)) : blocksF ps = chunksF (padF ps.flatten) := by
  unfold blocksF
  rw [lenN_eq ps _ (Nat.le_refl _), List.take_length]
  generalize ps.flatten = a
  have hc : a ++ [(128 : UInt8)] ++ List.replicate (zc a.length) 0 = cF a ++ List.replicate (56 - (cF a).length % 64) 0 ∧ (cF a).length % 64 ≤ 56 := by
    by_cases h : (a ++ [(128 : UInt8)]).length % 64 > 56
    · rw [cF_full a h]
      have hl : (a ++ [(128 : UInt8)] ++ List.replicate (64 - (a ++ [(128 : UInt8)]).length % 64) (0 : UInt8)).length % 64 = 0 := by
        rw [List.length_append, List.length_replicate]; omega
      refine ⟨?_, zz12⟩
      rw [hl, List.append_assoc, List.append_assoc, List.append_assoc, List.replicate_append_replicate]
      congr 3
      simp [zc] at h ⊢; omega
    · rw [cF_room a h]
      refine ⟨?_, zz12⟩
      congr 2
      simp [zc] at h ⊢; omega
  unfold padF
  rw [hc.1]
  generalize cF a = c at hc
  obtain ⟨_, hr⟩ := hc
  rw [setLen_eq _ _ (bufF_length c) 8 zz12, List.append_assoc c]
  have hx : c.length % 64 + (List.replicate (56 - c.length % 64) (0 : UInt8) ++ lenBMm (of64 (a.length : Nat) * 8) 8).length = 64 := by
    rw [List.length_append, List.length_replicate, lenB_lengthMm]; omega
  rw [(put_full c _ hx).1, hx]
  congr 2
  have e1 : (bufF c).drop (56 + 8) = [] := List.drop_of_length_le (by rw [bufF_length]; omega)
  rw [e1, List.append_nil, List.append_nil, ← List.append_assoc]
  congr 1
  rw [buf_take]
  unfold bufF
  have e3 : (c.drop (64 * (c.length / 64))).length = c.length % 64 := by rw [List.length_drop]; omega
  rw [List.take_append, List.take_of_length_le zz12, e3, List.take_replicate]
  congr 2; omega
theorem join_sum (ps : List (List UInt8)) : joinF ps = sumF ps.flatten := by unfold joinF sumF; rw [blocks_pad]
def shortF (bs : List UInt8) : List UInt8 := (sumF bs).take 16
theorem shortF_length (bs : List UInt8) : (shortF bs).length = 16 := by rw [shortF, List.length_take, sumF_length]; rfl
theorem one_flat (bs : List UInt8) : [bs].flatten = bs := by simp
end Go.Proofs.YtgnablliekgbgaaDoor
namespace Go.Proofs.YtgnablliekgbgaaDoor
open Go Go.PL Go.RowKit
def Glb (w : World) : Prop := CellsAt w.cell? ⟨0, 0, none⟩ (v32s rootsL) ∧ 0 < w.heap.size
theorem glob {w0 w : World} {M : List Ent} {S : List Fact} (h : Mem w0 [] M S w) (hG : Glb w0) : Glb w := ⟨h.at_old hG.1, Nat.lt_of_lt_of_le hG.2 h.size⟩
theorem shortW (bv : Value) (bs : List UInt8) (w : World) (hb : Seen w.cell? bv bs.length 1 (v8s bs)) (hG : Glb w) : Calls Tryd.prog 85 [bv].toArray w (Pur w (.agg (v8s (shortF bs)).toArray)) := by
  have := short bv bs w hb hG.1 hG.2
  rwa [join_sum, one_flat] at this
theorem eq8_41Mm : Eq8 Tryd.prog 41 16 := eqc_array Tryd.underlying41 Tryd.ti41 Tryd.ti5 rfl (eqc_int Tryd.underlying5 Tryd.ti5)
end Go.Proofs.YtgnablliekgbgaaDoor
namespace Go.Proofs.YtgnablliekgbgaaDoor
open Go Go.PL Go.RowKit
def stepF (x : List UInt8) (i j : Nat) : List UInt8 := shortF (x ++ [of8 (i : Int), of8 (j : Int)])
def climbF (x : List UInt8) (i f : Nat) : Nat → List UInt8
  | 0 => x
  | n + 1 => stepF (climbF x i f n) i (f + n)
def beginF (s : List UInt8) (i : Nat) : List UInt8 := stepF s i 255
def chainF (s : List UInt8) (i h : Nat) : List UInt8 := climbF (beginF s i) i 0 h
def digN (s : List UInt8) (k : Nat) : Nat := if k % 2 = 0 then (s.getD (k / 2) 0).toNat / 16 else (s.getD (k / 2) 0).toNat % 16
def digs (s : List UInt8) (n : Nat) : List Nat := (List.range n).map (digN s)
def dsum (s : List UInt8) : Nat → Nat
  | 0 => 0
  | n + 1 => dsum s n + (15 - digN s n)
def digsF (s : List UInt8) : List Nat := digs s 32 ++ [dsum s 32 / 256, dsum s 32 / 16 % 16, dsum s 32 % 16]
theorem stepF_length (x : List UInt8) (i j : Nat) : (stepF x i j).length = 16 := by rw [stepF]; exact shortF_length _
theorem climbF_length (x : List UInt8) (hx : x.length = 16) (i f : Nat) : ∀ n, (climbF x i f n).length = 16
  | 0 => hx
  | n + 1 => by rw [climbF]; exact stepF_length _ _ _
theorem beginF_length (s : List UInt8) (i : Nat) : (beginF s i).length = 16 := by rw [beginF]; exact stepF_length _ _ _
theorem chainF_length (s : List UInt8) (i h : Nat) : (chainF s i h).length = 16 := by rw [chainF]; exact climbF_length _ (beginF_length _ _) _ _ _
theorem digN_le (s : List UInt8) (k : Nat) : digN s k ≤ 15 := by
  have := (s.getD (k / 2) 0).toNat_lt
  unfold digN; split <;> omega
theorem digs_length (s : List UInt8) (n : Nat) : (digs s n).length = n := by simp [digs]
theorem digsF_length (s : List UInt8) : (digsF s).length = 35 := by simp [digsF, digs_length]
theorem digs_succ (s : List UInt8) (n : Nat) : digs s (n + 1) = digs s n ++ [digN s n] := by simp [digs, List.range_succ]
theorem dsum_le (s : List UInt8) : ∀ n, dsum s n ≤ 15 * n
  | 0 => Nat.le_refl _
  | n + 1 => by have := dsum_le s n; unfold dsum; omega
theorem sr4 (x : UInt8) : (sr8 x 4).toNat = x.toNat / 16 := by
  have := x.toNat_lt
  simp only [sr8, UInt8.toNat_ofNat']
  have : min 4 8 = 4 := rfl
  rw [this]; omega
theorem and15 (x : UInt8) : (x &&& 15).toNat = x.toNat % 16 := by
  rw [UInt8.toNat_and]; exact Nat.and_two_pow_sub_one_eq_mod _ 4
theorem nand15 (x : Nat) : x &&& 15 = x % 16 := Nat.and_two_pow_sub_one_eq_mod _ 4
theorem digs_two (s : List UInt8) (i : Nat) : digs s (2 * i) ++ [(sr8 (s.getD i 0) 4).toNat, (s.getD i 0 &&& 15).toNat] = digs s (2 * (i + 1)) := by
  rw [show 2 * (i + 1) = 2 * i + 1 + 1 from zz12, digs_succ, digs_succ, List.append_assoc]
  congr 1
  simp only [digN, sr4, and15]
  rw [if_pos zz12, if_neg zz12, show 2 * i / 2 = i from zz12, show (2 * i + 1) / 2 = i from zz12]; rfl
theorem dsum_two (s : List UInt8) (i : Nat) : dsum s (2 * i) + ((30 - (sr8 (s.getD i 0) 4).toNat) - (s.getD i 0 &&& 15).toNat) = dsum s (2 * (i + 1)) := by
  have h1 := digN_le s (2 * i)
  have h2 := digN_le s (2 * i + 1)
  rw [show 2 * (i + 1) = 2 * i + 1 + 1 from zz12, dsum, dsum]
  have e1 : digN s (2 * i) = (s.getD i 0).toNat / 16 := by unfold digN; rw [if_pos zz12, show 2 * i / 2 = i from zz12]
  have e2 : digN s (2 * i + 1) = (s.getD i 0).toNat % 16 := by unfold digN; rw [if_neg zz12, show (2 * i + 1) / 2 = i from zz12]
  rw [sr4, and15, ← e1, ← e2]; omega
theorem last3 (s : List UInt8) : digs s 32 ++ [dsum s 32 / 2 ^ 8, (dsum s 32 / 2 ^ 4) &&& 15, dsum s 32 &&& 15] = digsF s := by
  rw [nand15, nand15]; rfl
theorem digits (bv : Value) (bs : List UInt8) (w : World) (hbv : Seen w.cell? bv bs.length 1 (v8s bs)) (hG : Glb w) :
    Calls Tryd.prog 86 [bv].toArray w (GivesP w (fun v => SV v 35) (fun v : Value => v) (fun v => [.row v 35 3 1 (vns (digsF (shortF bs)))]) (fun _ => [])) := by
  have sbv := hbv.sv
  have lbv := sbv.le
  simp only [maxLen] at lbv
  refine enter (m := 42) (R := Mem w [] [] []) Tryd.func86 rfl rfl (Nat.le_of_ble_eq_true rfl) (Mem.start w) ?_
  refine wpc_seq <| wpc_region <| wpl_q (q_pure rfl) rfl <| wpl_nil <| ex_then <| wpc_seq <| wpc_region <| wpl_q (q_pure rfl) rfl <| wpl_nil <| ex_then <| wpc_seq <| wpc_region ?_
  refine wpl_q (q_pure rfl) rfl <| wpl_nil <| ex_then <| wpc_seq <| wpc_seq <| wpc_region <| wpl_q (q_pure rfl) rfl ?_
  refine wpl_t (t_pur Tryd.hb85 rfl fun w h => shortW _ _ w zz17 (glob h hG)) rfl (fun b10 => ?_)
  refine wpl_q (q_pure rfl) rfl <| wpl_nil <| ex_then <| wpc_block ?_
  refine wpc_loopc (ι := { x : Nat × Value // (x.1 ≤ 16) ∧ (SV x.2 (2 * x.1)) }) [(10, _)] (fun x Lc => (11, .int .i64 ((x.1.1 : Nat) : Int)) :: (3, x.1.2) :: (4, .int .i64 ((dsum (shortF bs) (2 * x.1.1) : Nat) : Int)) :: Lc) (fun x => Mem w [] [.row x.1.2 (2 * x.1.1) 3 1 (vns (digs (shortF bs) (2 * x.1.1)))] []) (fun x => 16 - x.1.1) ⟨(0, .slice none 0 0), ⟨Nat.zero_le _, SV.nil⟩⟩ zz9 ?_ ?_
  ·
   exact fun w h => h.nilRow 3 1
  ·
   rintro ⟨⟨i, v⟩, ⟨hi0, hi1⟩⟩; try dsimp only
   have hi0 : i ≤ 16 := hi0; have hi1 : SV v (2 * i) := hi1
   have hds := dsum_le (shortF bs) (2 * i)
   have hsl := shortF_length bs
   have hx1 := sr4 ((shortF bs).getD i 0)
   have hx2 := and15 ((shortF bs).getD i 0)
   have hx3 := ((shortF bs).getD i 0).toNat_lt
   refine wpc_seq <| wpc_region <| wpl_q (q_pure rfl) rfl <| wpl_nil <| ex_then <| wpc_seq ?_
   refine wpc_cond rfl (fun hc12 => ?_) (fun hc12 => ?_)
   ·
    try simp only [decide_eq_true_eq, decide_eq_false_iff_not, Bool.and_eq_true, Bool.or_eq_true, beq_iff_eq, bne_iff_ne, ne_eq, Bool.not_eq_true', Bool.not_eq_false', Decidable.not_not] at hc12
    refine wpc_skip <| ex_then <| wpc_seq <| wpc_block <| wpc_seq <| wpc_region ?_
    refine wpl_q (q_idxVN Tryd.underlying41 Tryd.ti5 Tryd.underlying5 rfl rfl rfl zz12 zz34) rfl ?_
    refine wpl_q (q_pure rfl) rfl <| wpl_nil <| ex_then <| wpc_seq <| wpc_region <| wpl_q (q_pure rfl) rfl ?_
    refine wpl_q (q8_shr rfl rfl zz24 4 rfl) rfl ?_
    refine wpl_q (q8_int Tryd.underlying5 Tryd.underlying3 rfl) rfl <| wpl_q (q_pure rfl) rfl ?_
    refine wpl_q (q8_and (b := (15 : UInt8)) rfl rfl) rfl ?_
    refine wpl_q (q8_int Tryd.underlying5 Tryd.underlying3 rfl) rfl <| wpl_q (q_pure rfl) rfl <| wpl_q (q_pure rfl) rfl <| wpl_nil <| ex_then <| wpc_seq <| wpc_region <| wpl_q (q_pure rfl) rfl <| wpl_q (q_pure rfl) rfl <| wpl_q (q_pure rfl) rfl ?_
    refine wpl_tp (t_bsV (vns [_, _]) Tryd.underlying146 Tryd.ti3 rfl rfl zz19 zz19 rfl (vns_one _)) rfl (fun b23 p23 => ?_)
    refine wpl_tp (t_apW Tryd.underlying146 Tryd.ti3 rfl zz19 rfl rfl (fun w h => zz14) (vns_one _) zz1 zz1 _ zz16) rfl (fun b24 p24 => ?_)
    refine wpl_q (q_pure rfl) rfl <| wpl_nil <| ex_then <| wpc_region <| wpl_q (q_pure rfl) rfl <| wpl_q (q_pure rfl) rfl ?_
    refine wpl_q (q_subN (a := 30) rfl rfl zz12 zz1) rfl ?_
    refine wpl_q (q_pure rfl) rfl ?_
    refine wpl_q (q_subN rfl rfl zz12 zz1) rfl ?_
    refine wpl_q (qop_eq (q_addN rfl rfl zz1) (by rw [dsum_two])) rfl ?_
    refine wpl_q (q_pure rfl) rfl <| wpl_nil <| ex_block <| ex_then <| wpc_region ?_
    refine wpl_q (q_addN (b := 1) rfl rfl zz1) rfl ?_
    refine wpl_q (q_pure rfl) rfl <| wpl_nil ?_
    refine ex_again ⟨(i + 1, b24), ⟨zz12, by rw [show 2 * (i + 1) = 2 * i + 2 from zz12]; exact p24⟩⟩ ?_ ?_ ?_
    ·
     exact zz9
    ·
     exact fun w h => by
       dsimp only
       rw [← digs_two, show 2 * (i + 1) = 2 * i + 2 from zz12]
       first | exact h.sub SubC.h SubC.h | exact h.sub zz8 zz8
    ·
     (show 16 - (i + 1) < 16 - i); omega
   ·
    simp only [decide_eq_false_iff_not] at hc12
    obtain rfl : i = 16 := by omega
    refine wpc_exit ?_
    refine ex_then_exit ?_
    refine ex_then_exit ?_
    refine ex_block_hit ?_
    refine ex_then <| wpc_seq <| wpc_region <| wpl_q (q_pure rfl) rfl <| wpl_q (q_pure rfl) rfl ?_
    refine wpl_q (q_shrN (b := 8) rfl rfl zz24) rfl ?_
    refine wpl_q (q_pure rfl) rfl ?_
    refine wpl_q (q_shrN (b := 4) rfl rfl zz24) rfl ?_
    refine wpl_q (q_andN (b := 15) rfl rfl zz1 zz1) rfl ?_
    refine wpl_q (q_pure rfl) rfl ?_
    refine wpl_q (q_andN (b := 15) rfl rfl zz1 zz1) rfl ?_
    refine wpl_tp (t_bsV (vns [_, _, _]) Tryd.underlying146 Tryd.ti3 rfl rfl zz19 zz19 rfl (vns_one _)) rfl (fun b40 p40 => ?_)
    refine wpl_tp (t_apW Tryd.underlying146 Tryd.ti3 rfl zz19 rfl rfl (fun w h => zz14) (vns_one _) zz1 zz1 (vns (digsF (shortF bs))) (by rw [← vns_append]; exact congrArg vns (last3 (shortF bs)))) rfl (fun b41 p41 => ?_)
    refine wpl_q (q_pure rfl) rfl <| wpl_nil <| ex_then <| wpc_ret ?_
    refine ret1 (.inl rfl) rfl rfl ?_
    exact fun w h => ⟨b41, p41, rfl, h.below, h.made SubC.h SubC.h⟩
end Go.Proofs.YtgnablliekgbgaaDoor
namespace Go.Proofs.YtgnablliekgbgaaDoor
open Go Go.PL Go.RowKit
def accF (E : Nat → List UInt8) : Nat → List UInt8
  | 0 => []
  | i + 1 => accF E i ++ E i
def publicF (s : List UInt8) : List UInt8 := shortF (accF (fun i => chainF s i 15) 35)
def dig (m : List UInt8) (i : Nat) : Nat := (digsF (shortF m)).getD i 0
def sg (s m : List UInt8) (n : Nat) : List (List UInt8) := (List.range n).map fun i => chainF s i (dig m i)
def signF (s m : List UInt8) : List (List UInt8) := sg s m 35
def recE (m : List UInt8) (chs : List (List UInt8)) (i : Nat) : List UInt8 := climbF (chs.getD i []) i (dig m i) (15 - dig m i)
def recF (m : List UInt8) (chs : List (List UInt8)) : List UInt8 := if chs.length = 35 then shortF (accF (recE m chs) 35) else List.replicate 16 0
def recEr (chs : List (List UInt8)) : Int := if chs.length = 35 then 0 else 12
theorem sg_all (s m : List UInt8) (n : Nat) : ∀ x ∈ sg s m n, x.length = 16 := by
  intro x hx
  obtain ⟨i, _, rfl⟩ := List.mem_map.1 hx
  exact chainF_length _ _ _
theorem signF_all (s m : List UInt8) : ∀ x ∈ signF s m, x.length = 16 := sg_all s m 35
theorem sg_length (s m : List UInt8) (n : Nat) : (sg s m n).length = n := by simp [sg]
theorem signF_length (s m : List UInt8) : (signF s m).length = 35 := sg_length s m 35
theorem sg_succ (s m : List UInt8) (n : Nat) : sg s m (n + 1) = sg s m n ++ [chainF s n (dig m n)] := by simp [sg, List.range_succ]
theorem dig_le (m : List UInt8) (i : Nat) : dig m i ≤ 15 := by
  have hd := dsum_le (shortF m) 32
  have : ∀ x ∈ digsF (shortF m), x ≤ 15 := by
    intro x hx
    unfold digsF at hx
    rcases List.mem_append.1 hx with hx | hx
    · obtain ⟨k, _, rfl⟩ := List.mem_map.1 hx
      exact digN_le _ _
    · simp only [List.mem_cons, List.not_mem_nil, or_false] at hx
      omega
  unfold dig
  rw [List.getD_eq_getElem?_getD]
  cases h : (digsF (shortF m))[i]? with
  | none => exact Nat.zero_le _
  | some x => exact this x (List.mem_of_getElem? h)
theorem recE_length (m : List UInt8) (chs : List (List UInt8)) (h : ∀ x ∈ chs, x.length = 16) (i : Nat) (hi : i < chs.length) : (recE m chs i).length = 16 := by
  rw [recE]; exact climbF_length _ (getD_mem_len h hi) _ _ _
theorem recF_length (m : List UInt8) (chs : List (List UInt8)) : (recF m chs).length = 16 := by
  unfold recF
  split
  · exact shortF_length _
  · exact List.length_replicate
theorem publicF_length (s : List UInt8) : (publicF s).length = 16 := by rw [publicF]; exact shortF_length _
theorem accF_len16 (E : Nat → List UInt8) (n : Nat) (h : ∀ i, i < n → (E i).length = 16) : ∀ k, k ≤ n → (accF E k).length = 16 * k
  | 0, _ => rfl
  | k + 1, hk => by rw [accF, List.length_append, accF_len16 E n h k zz12, h k zz12]; omega
theorem accF_congr (E F : Nat → List UInt8) (n : Nat) (h : ∀ i, i < n → E i = F i) : ∀ k, k ≤ n → accF E k = accF F k
  | 0, _ => rfl
  | k + 1, hk => by rw [accF, accF, accF_congr E F n h k zz12, h k zz12]
theorem step (xs : List UInt8) (i : Nat) (j : Nat) (w : World) (hxs : xs.length = 16) (hG : Glb w) :
    Calls Tryd.prog 95 [.agg (v8s xs).toArray, .int .i64 ((i : Nat) : Int), .int .i64 ((j : Nat) : Int)].toArray w (Pur w (.agg (v8s (stepF xs i j)).toArray)) := by
  refine enter (m := 15) (R := Mem w [] [] []) Tryd.func95 rfl rfl (Nat.le_of_ble_eq_true rfl) (Mem.start w) ?_
  refine wpc_seq <| wpc_region ?_
  refine wpl_t (t_box rfl (v8s xs) rfl) rfl (fun b3 => ?_)
  refine wpl_t (t_alloc Tryd.ti41 (v8s (List.replicate 16 0)) (by rfl)) rfl (fun b6 => ?_)
  refine wpl_nil <| ex_then <| wpc_seq <| wpc_region <| wpl_q (q_arAll Tryd.underlying41 Tryd.ti5 rfl rfl) rfl <| wpl_q (q_pure rfl) rfl <| wpl_q (q8_conv Tryd.underlying3 Tryd.underlying5 rfl) rfl <| wpl_q (q_pure rfl) rfl <| wpl_q (q8_conv Tryd.underlying3 Tryd.underlying5 rfl) rfl ?_
  refine wpl_tp (t_bsV (v8s [_, _]) Tryd.underlying34 Tryd.ti5 rfl rfl zz19 zz19 rfl (v8s_one _)) rfl (fun b12 p12 => ?_)
  refine wpl_tp (t_apF Tryd.underlying34 Tryd.ti5 rfl rfl rfl (fun w h => zz14) (fun w h => zz14) zz1 zz1 zz1 _ zz16) rfl (fun b13 p13 => ?_)
  refine wpl_t (t_pur Tryd.hb85 rfl fun w h => shortW _ _ w zz17 (glob h hG)) rfl (fun b14 => ?_)
  refine wpl_t0 (t_stA Tryd.ti41 rfl rfl zz0 (v8s_one _) zz0) (fun _ => ?_)
  refine wpl_nil <| ex_then <| wpc_ret ?_
  refine retv1 (.inl rfl) rfl (rv_agg Tryd.underlying41 rfl Tryd.ti41 rfl (fun w h => h.atB) zz0) ?_
  exact fun w h => ⟨rfl, h.below⟩
theorem climb (xs : List UInt8) (i : Nat) (f : Nat) (t : Nat) (w : World) (hxs : xs.length = 16) (hG : Glb w) (hf : f ≤ 1000) (ht : t ≤ 1000) :
    Calls Tryd.prog 83 [.agg (v8s xs).toArray, .int .i64 ((i : Nat) : Int), .int .i64 ((f : Nat) : Int), .int .i64 ((t : Nat) : Int)].toArray w (Pur w (.agg (v8s (climbF xs i f (t - f))).toArray)) := by
  refine enter (m := 21) (R := Mem w [] [] []) Tryd.func83 rfl rfl (Nat.le_of_ble_eq_true rfl) (Mem.start w) ?_
  refine wpc_seq <| wpc_region ?_
  refine wpl_t (t_box rfl (v8s xs) rfl) rfl (fun b4 => ?_)
  refine wpl_t (t_alloc Tryd.ti41 (v8s (List.replicate 16 0)) (by rfl)) rfl (fun b8 => ?_)
  refine wpl_nil <| ex_then <| wpc_seq <| wpc_seq <| wpc_region <| wpl_q (q_pure rfl) rfl <| wpl_q (q_pure rfl) rfl <| wpl_nil <| ex_then <| wpc_block ?_
  refine wpc_loopc (ι := { x : Nat // (x ≤ t - f) }) [(1, _), (3, _), (4, _), (8, _)] (fun x Lc => (9, .int .i64 ((f + x.1 : Nat) : Int)) :: Lc) (fun x => Mem w [] [.blk b8 41 (v8s (List.replicate 16 0)), .blk b4 41 (v8s (climbF xs i f x.1))] []) (fun x => t - f - x.1) ⟨0, zz42⟩ zz9 ?_ ?_
  ·
   exact fun w h => h
  ·
   rintro ⟨n, hi0⟩; try dsimp only
   have hi0 : n ≤ t - f := hi0
   have hcl := climbF_length xs hxs i f n
   refine wpc_seq <| wpc_seq <| wpc_region <| wpl_q (q_pure rfl) rfl <| wpl_q (q_pure rfl) rfl <| wpl_q (q_pure rfl) rfl <| wpl_nil <| ex_then ?_
   refine wpc_cond rfl (fun hc13 => ?_) (fun hc13 => ?_)
   ·
    simp only [decide_eq_true_eq] at hc13
    refine wpc_skip <| ex_then <| wpc_seq <| wpc_block <| wpc_region ?_
    refine wpl_q (q_ldN Tryd.underlying41 rfl Tryd.ti41 rfl zz0) rfl ?_
    refine wpl_q (q_pure rfl) rfl <| wpl_q (q_pure rfl) rfl ?_
    refine wpl_t (t_pur Tryd.hb95 rfl fun w h => step _ _ _ w zz11 (glob h hG)) rfl (fun b19 => ?_)
    refine wpl_t0 (t_stA Tryd.ti41 rfl rfl zz0 (v8s_one _) zz0) (fun _ => ?_)
    refine wpl_nil <| ex_block <| ex_then <| wpc_region <| wpl_q (q_pure rfl) rfl ?_
    refine wpl_q (q_addN (b := 1) rfl rfl zz1) rfl ?_
    refine wpl_q (q_pure rfl) rfl <| wpl_nil ?_
    refine ex_again ⟨n + 1, zz42⟩ ?_ ?_ ?_
    ·
     exact zz9
    ·
     exact fun w h => by first | exact h | exact h.sub SubC.h SubC.h | exact h.sub zz8 zz8
    ·
     (show t - f - (n + 1) < t - f - n); omega
   ·
    simp only [decide_eq_false_iff_not] at hc13
    obtain rfl : n = t - f := by omega
    refine wpc_exit ?_
    refine ex_then_exit ?_
    refine ex_then_exit ?_
    refine ex_block_hit ?_
    refine ex_then <| wpc_seq <| wpc_region ?_
    refine wpl_q (q_ldN Tryd.underlying41 rfl Tryd.ti41 rfl zz0) rfl ?_
    refine wpl_t0 (t_stA Tryd.ti41 rfl rfl zz0 (v8s_one _) zz0) (fun _ => ?_)
    refine wpl_nil <| ex_then <| wpc_ret ?_
    refine retv1 (.inl rfl) rfl (rv_agg Tryd.underlying41 rfl Tryd.ti41 rfl (fun w h => h.atB) zz0) ?_
    exact fun w h => ⟨rfl, h.below⟩
theorem begin_ (xs : List UInt8) (i : Nat) (w : World) (hxs : xs.length = 16) (hG : Glb w) :
    Calls Tryd.prog 84 [.agg (v8s xs).toArray, .int .i64 ((i : Nat) : Int)].toArray w (Pur w (.agg (v8s (beginF xs i)).toArray)) := by
  refine enter (m := 8) (R := Mem w [] [] []) Tryd.func84 rfl rfl (Nat.le_of_ble_eq_true rfl) (Mem.start w) ?_
  refine wpc_seq <| wpc_region ?_
  refine wpl_t (t_box rfl (v8s xs) rfl) rfl (fun b2 => ?_)
  refine wpl_t (t_alloc Tryd.ti41 (v8s (List.replicate 16 0)) (by rfl)) rfl (fun b4 => ?_)
  refine wpl_nil <| ex_then <| wpc_seq <| wpc_region ?_
  refine wpl_q (q_ldN Tryd.underlying41 rfl Tryd.ti41 rfl zz0) rfl ?_
  refine wpl_q (q_pure rfl) rfl ?_
  refine wpl_t (t_pur Tryd.hb95 rfl fun w h => step _ _ 255 w zz11 (glob h hG)) rfl (fun b7 => ?_)
  refine wpl_t0 (t_stA Tryd.ti41 rfl rfl zz0 (v8s_one _) zz0) (fun _ => ?_)
  refine wpl_nil <| ex_then <| wpc_ret ?_
  refine retv1 (.inl rfl) rfl (rv_agg Tryd.underlying41 rfl Tryd.ti41 rfl (fun w h => h.atB) zz0) ?_
  exact fun w h => ⟨rfl, h.below⟩
theorem ends (cf : Nat) (cap : Array Value) (E : Nat → List UInt8) (w : World)  (hG : Glb w) (hcb : HasBody Tryd.prog cf) (hE : ∀ i, i < 35 → (E i).length = 16) (hcl : ∀ (i : Nat) (w1 : World), i < 35 → Mem w [] [] [] w1 → Calls Tryd.prog cf (#[.int .i64 ((i : Nat) : Int)] ++ cap) w1 (Pur w1 (.agg (v8s (E i)).toArray))) :
    Calls Tryd.prog 81 [.func (.func cf) #[] cap].toArray w (Pur w (.agg (v8s (shortF (accF E 35))).toArray)) := by
  refine enter (m := 18) (R := Mem w [] [] []) Tryd.func81 rfl rfl (Nat.le_of_ble_eq_true rfl) (Mem.start w) ?_
  refine wpc_seq <| wpc_region ?_
  refine wpl_t (t_alloc Tryd.ti41 (v8s (List.replicate 16 0)) (by rfl)) rfl (fun b2 => ?_)
  refine wpl_nil <| ex_then <| wpc_seq <| wpc_region <| wpl_q (q_pure rfl) rfl <| wpl_nil <| ex_then <| wpc_seq <| wpc_seq <| wpc_region <| wpl_q (q_pure rfl) rfl <| wpl_nil ?_
  refine ex_then <| wpc_block ?_
  refine wpc_loopc (ι := { x : Nat × Value // (x.1 ≤ 35) ∧ (SV x.2 (accF E x.1).length) }) [(0, _), (2, _)] (fun x Lc => (6, .int .i64 ((x.1.1 : Nat) : Int)) :: (3, x.1.2) :: Lc) (fun x => Mem w [] [.row x.1.2 (accF E x.1.1).length 5 1 (v8s (accF E x.1.1)), .blk b2 41 (v8s (List.replicate 16 0))] []) (fun x => 35 - x.1.1) ⟨(0, .slice none 0 0), ⟨Nat.zero_le _, SV.nil⟩⟩ zz9 ?_ ?_
  ·
   exact fun w h => h.nilRow 5 1
  ·
   rintro ⟨⟨i, v⟩, ⟨hi0, hi1⟩⟩; try dsimp only
   have hi0 : i ≤ 35 := hi0; have hi1 : SV v (accF E i).length := hi1
   have hal : i ≤ 35 → (accF E i).length ≤ 16 * 35 := fun hi => by rw [accF_len16 E 35 hE i hi]; omega
   have hal2 := hal hi0
   refine wpc_seq <| wpc_region <| wpl_q (q_pure rfl) rfl <| wpl_nil <| ex_then <| wpc_seq ?_
   refine wpc_cond rfl (fun hc7 => ?_) (fun hc7 => ?_)
   ·
    simp only [decide_eq_true_eq] at hc7
    have hEi := hE i zz12
    refine wpc_skip <| ex_then <| wpc_seq <| wpc_block <| wpc_seq <| wpc_region <| wpl_q (q_pure rfl) rfl <| wpl_q (q_pure rfl) rfl <| wpl_nil <| ex_then <| wpc_seq <| wpc_region ?_
    refine wpl_q (q_pure rfl) rfl <| wpl_q (q_pure rfl) rfl ?_
    refine wpl_t (t_purV rfl hcb rfl fun w h => hcl i w zz12 (h.sub .nil .nil)) rfl (fun b11 => ?_)
    refine wpl_t (t_alloc Tryd.ti41 (v8s (List.replicate 16 0)) (by rfl)) rfl (fun b5 => ?_)
    refine wpl_t0 (t_stA Tryd.ti41 rfl rfl zz0 (v8s_one _) zz0) (fun _ => ?_)
    refine wpl_nil <| ex_then <| wpc_region <| wpl_q (q_pure rfl) rfl <| wpl_q (q_arAll Tryd.underlying41 Tryd.ti5 rfl rfl) rfl ?_
    refine wpl_tp (t_apW Tryd.underlying34 Tryd.ti5 rfl zz19 rfl rfl (fun w h => zz14) (v8s_one _) zz1 zz1 _ zz16) rfl (fun b14 p14 => ?_)
    refine wpl_q (q_pure rfl) rfl <| wpl_nil <| ex_block <| ex_then <| wpc_region ?_
    refine wpl_q (q_addN (b := 1) rfl rfl zz1) rfl ?_
    refine wpl_q (q_pure rfl) rfl <| wpl_nil ?_
    refine ex_again ⟨(i + 1, b14), ⟨zz12, by rw [accF, List.length_append, hEi]; exact p14⟩⟩ ?_ ?_ ?_
    ·
     exact zz9
    ·
     exact fun w h => by
       dsimp only
       rw [accF, List.length_append, hEi]
       first | exact h.sub SubC.h SubC.h | exact h.sub zz8 zz8
    ·
     (show 35 - (i + 1) < 35 - i); omega
   ·
    simp only [decide_eq_false_iff_not] at hc7
    obtain rfl : i = 35 := by omega
    refine wpc_exit ?_
    refine ex_then_exit ?_
    refine ex_then_exit ?_
    refine ex_block_hit ?_
    refine ex_then <| wpc_seq <| wpc_region <| wpl_q (q_pure rfl) rfl ?_
    refine wpl_t (t_pur Tryd.hb85 rfl fun w h => shortW _ _ w zz17 (glob h hG)) rfl (fun b17 => ?_)
    refine wpl_t0 (t_stA Tryd.ti41 rfl rfl zz0 (v8s_one _) zz0) (fun _ => ?_)
    refine wpl_nil <| ex_then <| wpc_ret ?_
    refine retv1 (.inl rfl) rfl (rv_agg Tryd.underlying41 rfl Tryd.ti41 rfl (fun w h => h.atB) zz0) ?_
    exact fun w h => ⟨rfl, h.below⟩
theorem public1 (i : Nat) (b : Nat) (xs : List UInt8) (w : World) (hxs : xs.length = 16) (hb : CellsAt w.cell? ⟨b, 0, none⟩ (v8s xs)) (hG : Glb w) :
    Calls Tryd.prog 82 [.int .i64 ((i : Nat) : Int), .pointer (some ⟨b, 0, none⟩)].toArray w (Pur w (.agg (v8s (chainF xs i 15)).toArray)) := by
  refine enter (m := 9) (R := Mem w [] [] []) Tryd.func82 rfl rfl (Nat.le_of_ble_eq_true rfl) (Mem.start w) ?_
  refine wpc_seq <| wpc_region ?_
  refine wpl_t (t_alloc Tryd.ti41 (v8s (List.replicate 16 0)) (by rfl)) rfl (fun b3 => ?_)
  refine wpl_nil <| ex_then <| wpc_seq <| wpc_region ?_
  refine wpl_q (q_loadN Tryd.underlying41 rfl Tryd.ti41 rfl (fun w h => h.at_old hb) zz0) rfl ?_
  refine wpl_q (q_pure rfl) rfl ?_
  refine wpl_t (t_pur Tryd.hb84 rfl fun w h => begin_ _ _ w zz11 (glob h hG)) rfl (fun b6 => ?_)
  refine wpl_q (q_pure rfl) rfl ?_
  refine wpl_t (t_pur Tryd.hb83 rfl fun w h => climb _ _ 0 15 w zz11 (glob h hG) zz12 zz12) rfl (fun b8 => ?_)
  refine wpl_t0 (t_stA Tryd.ti41 rfl rfl zz0 (v8s_one _) zz0) (fun _ => ?_)
  refine wpl_nil <| ex_then <| wpc_ret ?_
  refine retv1 (.inl rfl) rfl (rv_agg Tryd.underlying41 rfl Tryd.ti41 rfl (fun w h => h.atB) zz0) ?_
  exact fun w h => ⟨rfl, h.below⟩
theorem public_ (xs : List UInt8) (w : World) (hxs : xs.length = 16) (hG : Glb w) :
    Calls Tryd.prog 56 [.agg (v8s xs).toArray].toArray w (Pur w (.agg (v8s (publicF xs)).toArray)) := by
  refine enter (m := 5) (R := Mem w [] [] []) Tryd.func56 rfl rfl (Nat.le_of_ble_eq_true rfl) (Mem.start w) ?_
  refine wpc_seq <| wpc_region ?_
  refine wpl_t (t_box rfl (v8s xs) rfl) rfl (fun b1 => ?_)
  refine wpl_t (t_alloc Tryd.ti41 (v8s (List.replicate 16 0)) (by rfl)) rfl (fun b2 => ?_)
  refine wpl_nil <| ex_then <| wpc_seq <| wpc_region ?_
  refine wpl_q (q_fn (us := []) (vs := [_]) rfl rfl) rfl ?_
  refine wpl_t (t_pur Tryd.hb81 rfl fun w h => ends 82 _ (fun i => chainF xs i 15) w (glob h hG) Tryd.hb82 (fun _ _ => chainF_length _ _ _) fun i w1 _ h1 => public1 i b1 xs w1 hxs (h1.at_old h.atB) (glob h1 (glob h hG))) rfl (fun b4 => ?_)
  refine wpl_t0 (t_stA Tryd.ti41 rfl rfl zz0 (v8s_one _) zz0) (fun _ => ?_)
  refine wpl_nil <| ex_then <| wpc_ret ?_
  refine retv1 (.inl rfl) rfl (rv_agg Tryd.underlying41 rfl Tryd.ti41 rfl (fun w h => h.atB) zz0) ?_
  exact fun w h => ⟨rfl, h.below⟩
theorem sign1 (xs : List UInt8) (bv : Value) (bs : List UInt8) (w : World) (hxs : xs.length = 16) (hbv : Seen w.cell? bv bs.length 1 (v8s bs)) (hG : Glb w) :
    Calls Tryd.prog 61 [.agg (v8s xs).toArray, bv].toArray w (GivesP w (fun v => SV v 35) (fun v : Value => v) (fun v => [.row v 35 41 16 (v8s (signF xs bs).flatten)]) (fun _ => [])) := by
  have sbv := hbv.sv
  have lbv := sbv.le
  simp only [maxLen] at lbv
  refine enter (m := 27) (R := Mem w [] [] []) Tryd.func61 rfl rfl (Nat.le_of_ble_eq_true rfl) (Mem.start w) ?_
  refine wpc_seq <| wpc_region ?_
  refine wpl_t (t_box rfl (v8s xs) rfl) rfl (fun b2 => ?_)
  refine wpl_q (q_pure rfl) rfl <| wpl_nil <| ex_then <| wpc_seq <| wpc_region <| wpl_q (q_pure rfl) rfl <| wpl_nil <| ex_then <| wpc_seq <| wpc_seq <| wpc_region <| wpl_q (q_pure rfl) rfl ?_
  refine wpl_tp (t_callP1 Tryd.hb86 rfl fun w h => digits _ _ w zz17 (glob h hG)) rfl (fun b9 p9 => ?_)
  refine wpl_q (q_lenW Tryd.underlying146 rfl zz3) rfl ?_
  refine wpl_q (q_pure rfl) rfl <| wpl_nil <| ex_then <| wpc_block ?_
  refine wpc_loopc (ι := { x : Nat × Value // (x.1 ≤ 35) ∧ (SV x.2 x.1) }) [(2, _), (9, _), (10, _)] (fun x Lc => (11, .int .i64 ((x.1.1 : Nat) : Int)) :: (5, x.1.2) :: Lc) (fun x => Mem w [] [.row x.1.2 x.1.1 41 16 (v8s (sg xs bs x.1.1).flatten), .row b9 35 3 1 (vns (digsF (shortF bs))), .blk b2 41 (v8s xs)] []) (fun x => 35 - x.1.1) ⟨(0, .slice none 0 0), ⟨Nat.zero_le _, SV.nil⟩⟩ zz9 ?_ ?_
  ·
   exact fun w h => h.nilRow 41 16
  ·
   rintro ⟨⟨i, v⟩, ⟨hi0, hi1⟩⟩; try dsimp only
   have hi0 : i ≤ 35 := hi0; have hi1 : SV v i := hi1
   have hdl := digsF_length (shortF bs)
   have hdg : (digsF (shortF bs)).getD i 0 ≤ 15 := dig_le bs i
   refine wpc_seq <| wpc_region <| wpl_q (q_pure rfl) rfl <| wpl_nil <| ex_then <| wpc_seq ?_
   refine wpc_cond rfl (fun hc12 => ?_) (fun hc12 => ?_)
   ·
    try simp only [decide_eq_true_eq, decide_eq_false_iff_not, Bool.and_eq_true, Bool.or_eq_true, beq_iff_eq, bne_iff_ne, ne_eq, Bool.not_eq_true', Bool.not_eq_false', Decidable.not_not] at hc12
    refine wpc_skip <| ex_then <| wpc_seq <| wpc_block <| wpc_seq <| wpc_region <| wpl_q (q_pure rfl) rfl ?_
    refine wpl_q (q_idxW1 Tryd.underlying146 Tryd.ti3 rfl rfl zz3 zz1) rfl ?_
    refine wpl_q (q_ldW Tryd.underlying3 rfl rfl (fun w h => zz14) zz23) rfl ?_
    refine wpl_q (q_pure rfl) rfl <| wpl_q (q_pure rfl) rfl <| wpl_nil <| ex_then <| wpc_region <| wpl_q (q_pure rfl) rfl ?_
    refine wpl_q (q_ldN Tryd.underlying41 rfl Tryd.ti41 rfl zz0) rfl ?_
    refine wpl_q (q_pure rfl) rfl ?_
    refine wpl_t (t_pur Tryd.hb84 rfl fun w h => begin_ _ _ w zz11 (glob h hG)) rfl (fun b19 => ?_)
    refine wpl_q (q_pure rfl) rfl <| wpl_q (q_pure rfl) rfl ?_
    refine wpl_t (t_pur Tryd.hb83 rfl fun w h => climb _ _ 0 _ w zz11 (glob h hG) zz12 zz12) rfl (fun b22 => ?_)
    refine wpl_tp (t_bsS [_] Tryd.underlying28 Tryd.ti41 rfl zz19 rfl zz19 zz19 rfl (all_one zz11)) rfl (fun b23 p23 => ?_)
    refine wpl_tp (t_apW Tryd.underlying28 Tryd.ti41 rfl zz19 rfl rfl (fun w h => zz14) (by first | exact v8s_one _ | exact v32s_one _ | exact v64s_one _ | exact vis_one _ | exact vns_one _ | exact v16s_one _ | (intro u hu; simp at hu; rcases hu with h | h <;> subst h <;> rfl) | (intro u hu; simp only [List.mem_cons, List.not_mem_nil, or_false] at hu; subst hu; exact SV.one (by assumption)) | (intro u hu; simp only [List.mem_cons, List.not_mem_nil, or_false] at hu; rcases hu with rfl <;> exact SV.one zz32) | (intro u hu; simp only [List.mem_cons, List.not_mem_nil, or_false] at hu; rcases hu with rfl | rfl <;> exact SV.one zz32) | (intro u hu; simp only [List.mem_cons, List.not_mem_nil, or_false] at hu; rcases hu with rfl | rfl | rfl <;> exact SV.one zz32) | (intro u hu; simp only [List.mem_cons, List.not_mem_nil, or_false] at hu; rcases hu with rfl | rfl | rfl | rfl <;> exact SV.one zz32) | (simp [Value.oneCell']; done)) zz1 zz1 _ zz16) rfl (fun b24 p24 => ?_)
    refine wpl_q (q_pure rfl) rfl <| wpl_nil <| ex_block <| ex_then <| wpc_region ?_
    refine wpl_q (q_addN (b := 1) rfl rfl zz1) rfl ?_
    refine wpl_q (q_pure rfl) rfl <| wpl_nil ?_
    refine ex_again ⟨(i + 1, b24), ⟨zz12, p24⟩⟩ ?_ ?_ ?_
    ·
     exact zz9
    ·
     exact fun w h => by
       dsimp only
       rw [sg_succ, List.flatten_append]
       first | exact h.sub SubC.h SubC.h | exact h.sub zz8 zz8
    ·
     (show 35 - (i + 1) < 35 - i); omega
   ·
    simp only [decide_eq_false_iff_not] at hc12
    obtain rfl : i = 35 := by omega
    refine wpc_exit ?_
    refine ex_then_exit ?_
    refine ex_then_exit ?_
    refine ex_block_hit ?_
    refine ex_then <| wpc_seq <| wpc_region <| wpl_q (q_pure rfl) rfl <| wpl_q (q_pure rfl) rfl <| wpl_nil <| ex_then <| wpc_ret ?_
    refine ret1 (.inl rfl) rfl rfl ?_
    exact fun w h => ⟨v, hi1, rfl, h.below, h.made (.keep .nil) .nil⟩
theorem recover1 (i : Nat) (b1 b2 : Nat) (cv dv : Value) (chs : List (List UInt8)) (bs : List UInt8) (w : World) (hb1 : w.cell? ⟨b1, 0, none⟩ = some cv) (hb2 : w.cell? ⟨b2, 0, none⟩ = some dv) (hcv : Seen w.cell? cv chs.length 16 (v8s chs.flatten)) (hlc : ∀ x ∈ chs, x.length = 16) (hdv : Seen w.cell? dv 35 1 (vns (digsF (shortF bs)))) (hi : i < 35) (hcl : chs.length = 35) (hG : Glb w) :
    Calls Tryd.prog 91 [.int .i64 ((i : Nat) : Int), .pointer (some ⟨b1, 0, none⟩), .pointer (some ⟨b2, 0, none⟩)].toArray w (Pur w (.agg (v8s (recE bs chs i)).toArray)) := by
  have scv := hcv.sv
  have sdv := hdv.sv
  have hdl := digsF_length (shortF bs)
  have hdg : (digsF (shortF bs)).getD i 0 ≤ 15 := dig_le bs i
  have hgl := getD_mem_len hlc (i := i) zz12
  refine enter (m := 15) (R := Mem w [] [] []) Tryd.func91 rfl rfl (Nat.le_of_ble_eq_true rfl) (Mem.start w) ?_
  refine wpc_seq <| wpc_region ?_
  refine wpl_t (t_alloc Tryd.ti41 (v8s (List.replicate 16 0)) (by rfl)) rfl (fun b4 => ?_)
  refine wpl_nil <| ex_then <| wpc_seq ?_
  refine wpc_draw 10 zz7 (fun _ h => h.drew) ?_
  refine wpd_q 0 rfl zz7 trivial (q_load1 Tryd.underlying28 rfl rfl (fun w h => h.cell_old hb1)) rfl (fun _ h => h) ?_
  refine wpd_p 1 rfl zz7 trivial (q_pure rfl) rfl sk0 ?_
  refine wpd_p 2 rfl zz7 trivial (q_idxW Tryd.underlying28 Tryd.ti41 rfl rfl zz3 zz1) rfl sk0 ?_
  refine wpd_q 3 rfl zz7 trivial (q_ldWN Tryd.underlying41 rfl Tryd.ti41 rfl (fun w h => zz14) (v8s (chs.getD i [])) (part8 hlc zz12) ((v8s_length _).trans (getD_mem_len hlc zz12))) rfl (fun _ h => h) ?_
  refine wpd_p 4 rfl zz7 trivial (q_pure rfl) rfl sk0 ?_
  refine wpd_q 5 rfl zz7 trivial (q_load1 Tryd.underlying146 rfl rfl (fun w h => h.cell_old hb2)) rfl (fun _ h => h) ?_
  refine wpd_p 6 rfl zz7 trivial (q_pure rfl) rfl sk0 ?_
  refine wpd_p 7 rfl zz7 trivial (q_idxW1 Tryd.underlying146 Tryd.ti3 rfl rfl zz3 zz1) rfl sk0 ?_
  refine wpd_q 8 rfl zz7 trivial (q_ldW Tryd.underlying3 rfl rfl (fun w h => zz14) zz23) rfl (fun _ h => h) ?_
  refine wpd_t 9 rfl zz7 trivial (t_pur Tryd.hb83 rfl fun w h => climb _ _ _ 15 w zz11 (glob h hG) zz12 zz12) rfl (fun _ => sk0) (fun b14 => ?_)
  refine wpd_t0 10 rfl zz7 trivial (t_stA Tryd.ti41 rfl rfl zz0 (v8s_one _) zz0) (fun _ => skk rfl) (fun _ => ?_)
  refine wpd_done zz7 ?_
  refine ex_then <| wpc_ret ?_
  refine retv1 (.inl rfl) rfl (rv_agg Tryd.underlying41 rfl Tryd.ti41 rfl (fun w h => h.atB) ((v8s_length _).trans (recE_length bs chs hlc i zz12))) ?_
  exact fun w h => ⟨rfl, h.below⟩
theorem recover (bv : Value) (bs : List UInt8) (cv : Value) (chs : List (List UInt8)) (w : World) (hbv : Seen w.cell? bv bs.length 1 (v8s bs)) (hcv : Seen w.cell? cv chs.length 16 (v8s chs.flatten)) (hlchs : ∀ x ∈ chs, x.length = 16) (hG : Glb w) :
    Calls Tryd.prog 71 [bv, cv].toArray w (Pur w (.tuple #[.agg (v8s (recF bs chs)).toArray, .int .i64 (recEr chs)])) := by
  have sbv := hbv.sv
  have lbv := sbv.le
  simp only [maxLen] at lbv
  have scv := hcv.sv
  have lcv := scv.le
  simp only [maxLen] at lcv
  refine enter (m := 15) (R := Mem w [] [] []) Tryd.func71 rfl rfl (Nat.le_of_ble_eq_true rfl) (Mem.start w) ?_
  refine wpc_seq <| wpc_region ?_
  refine wpl_t (t_box rfl [cv] scv.cells) rfl (fun b3 => ?_)
  refine wpl_t (t_alloc Tryd.ti41 (v8s (List.replicate 16 0)) (by rfl)) rfl (fun b4 => ?_)
  refine wpl_q (q_pure rfl) rfl <| wpl_nil <| ex_then <| wpc_seq <| wpc_seq <| wpc_region ?_
  refine wpl_q (q_load1 Tryd.underlying28 rfl rfl (fun w h => h.cell_blk zz4 rfl)) rfl ?_
  refine wpl_q (q_lenW Tryd.underlying28 rfl zz3) rfl ?_
  refine wpl_q (q_pure rfl) rfl <| wpl_nil <| ex_then ?_
  refine wpc_cond rfl (fun hc9 => ?_) (fun hc9 => ?_)
  ·
   simp only [bne_iff_ne, ne_eq, decide_eq_true_eq] at hc9
   have hne : chs.length ≠ 35 := by omega
   have hr : recF bs chs = List.replicate 16 0 := if_neg hne
   have he : recEr chs = 12 := if_neg hne
   refine wpc_seq <| wpc_region ?_
   refine wpl_q (q_build (cs := (v8s (List.replicate 16 0))) rfl (built_array Tryd.underlying41 Tryd.ti41 Tryd.ti5 rfl)) rfl ?_
   refine wpl_t0 (t_stA Tryd.ti41 rfl rfl zz0 (v8s_one _) zz0) (fun _ => ?_)
   refine wpl_q (q_pure rfl) rfl <| wpl_nil <| ex_then <| wpc_ret ?_
   refine ex_then_ret ?_
   refine retv2 (.inl rfl) rfl (rv_agg Tryd.underlying41 rfl Tryd.ti41 rfl (fun w h => h.atB) zz0) (rv_tmp rfl) ?_
   exact fun w h => ⟨by rw [hr, he], h.below⟩
  ·
   simp only [bne_eq_false_iff_eq, decide_eq_false_iff_not, ne_eq, Decidable.not_not] at hc9
   have heq : chs.length = 35 := by omega
   have hr : recF bs chs = shortF (accF (recE bs chs) 35) := if_pos heq
   have he : recEr chs = 0 := if_pos heq
   refine wpc_skip <| ex_then <| wpc_seq <| wpc_region <| wpl_q (q_pure rfl) rfl ?_
   refine wpl_tp (t_callP1 Tryd.hb86 rfl fun w h => digits _ _ w zz17 (glob h hG)) rfl (fun b12 p12 => ?_)
   refine wpl_t (t_alloc Tryd.ti146 [.slice none 0 0] rfl) rfl (fun b6 => ?_)
   refine wpl_t0 (t_st1 Tryd.ti146 rfl rfl (SV.one zz3) zz6 _ rfl) (fun _ => ?_)
   refine wpl_nil <| ex_then <| wpc_seq <| wpc_region ?_
   refine wpl_q (q_fn (us := []) (vs := [_, _]) rfl rfl) rfl ?_
   refine wpl_t (t_pur Tryd.hb81 rfl fun w h => ends 91 _ (recE bs chs) w (glob h hG) Tryd.hb91 (fun i hi => recE_length bs chs hlchs i zz12) fun i w1 hi h1 => recover1 i b3 b6 cv b12 chs bs w1 (h1.cell_old (h.cell_blk zz4 rfl)) (h1.cell_old (h.cell_blk zz4 rfl)) (h1.seen_old (h.seen_old hcv)) hlchs (h1.seen_old h.seenV) hi heq (glob h1 (glob h hG))) rfl (fun b14 => ?_)
   refine wpl_t0 (t_stA Tryd.ti41 rfl rfl zz0 (v8s_one _) zz0) (fun _ => ?_)
   refine wpl_q (q_pure rfl) rfl <| wpl_nil <| ex_then <| wpc_ret ?_
   refine retv2 (.inl rfl) rfl (rv_agg Tryd.underlying41 rfl Tryd.ti41 rfl (fun w h => h.atB) zz0) (rv_tmp rfl) ?_
   exact fun w h => ⟨by rw [hr, he], h.below⟩
end Go.Proofs.YtgnablliekgbgaaDoor
