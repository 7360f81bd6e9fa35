/- What the statement reaches, in order. -/
import Derived.Test.YtgnablliekgbgaaGreatDoorMXPLN
import Derived.Test.YtgnablliekgbgaaGreatDoorMXPLL
import Derived.Test.YtgnablliekgbgaaGreatDoorMXTI
import Derived.Lib.BufferRead
import Derived.Lib.ConvBytes
import Derived.Laws.IdiomStrings
import Derived.Test.YtgnablliekgbgaaGreatDoorMXPLH
import Derived.Test.YtgnablliekgbgaaGreatDoorMXPLI
import Derived.Test.YtgnablliekgbgaaGreatDoorMXPLZ
import Derived.WalkKit
import Derived.ProofKit
import Derived.OpenShut
import Derived.ChangeOld
import Derived.Below
import Derived.Carry
import Derived.LaidMore
import Derived.Deep.DeepHandedRow
import Derived.Deep.DeepWitnessRowRef
import Derived.Lib.LaidTab
import Derived.Stop.Joined
import Derived.Test.YtgnablliekgbgaaGreatDoorMX1
set_option linter.unusedSimpArgs false
set_option linter.unusedVariables false
set_option maxRecDepth 100000
namespace Go.Proofs.YtgnablliekgbgaaGreatDoor
open Go Go.PL Go.RowKit
theorem fl16 {l : List (List UInt8)} (h : ∀ x ∈ l, x.length = 16) : l.flatten.length = 16 * l.length := by
  induction l with
  | nil => rfl
  | cons x l ih =>
    rw [List.flatten_cons, List.length_append, h x (List.mem_cons_self ..), ih (fun y hy => h y (List.mem_cons_of_mem _ hy)), List.length_cons]; omega
theorem spoil (l : Rv) (w : World) (hb : Mem w (nums [.row l.sv l.ss.length 22 1 (v64s l.ss), .row l.cv l.chs.length 32 16 (v8s l.chs.flatten)]) [.row l.sv l.ss.length 22 1 (v64s l.ss), .row l.cv l.chs.length 32 16 (v8s l.chs.flatten)] [] w) (hsv : l.svs) (hlc : ∀ x ∈ l.chs, x.length = 16)  :
    Calls Tryz.prog 11 [.agg l.c.toArray].toArray w (GivesA w [.row l.sv l.ss.length 22 1 (v64s l.ss), .row l.cv l.chs.length 32 16 (v8s l.chs.flatten)] (fun x : List UInt64 × List UInt8 => x.1.length = l.ss.length ∧ x.2.length = 16 * l.chs.length) (fun _ => .tuple #[]) (fun x => [.row l.sv l.ss.length 22 1 (v64s x.1), .row l.cv l.chs.length 32 16 (v8s x.2)])) := by
  haveI := hsv.one
  have sss := hsv.1
  have scs := hsv.2.1
  have lss := sss.le
  have lcs := scs.le
  simp only [maxLen] at lss lcs
  refine enter (m := 36) (R := Mem w (nums [.row l.sv l.ss.length 22 1 (v64s l.ss), .row l.cv l.chs.length 32 16 (v8s l.chs.flatten)]) [.row l.sv l.ss.length 22 1 (v64s l.ss), .row l.cv l.chs.length 32 16 (v8s l.chs.flatten)] []) Tryz.func11 rfl rfl (Nat.le_of_ble_eq_true rfl) hb ?_
  refine wpc_seq <| wpc_region ?_
  refine wpl_t (t_box rfl l.c rfl) rfl (fun b1 => ?_)
  refine wpl_nil <| ex_then <| wpc_seq <| wpc_seq <| wpc_region <| wpl_q (q_pure rfl) rfl <| wpl_nil <| ex_then <| wpc_block ?_
  refine wpc_loopc (ι := { x : Nat × List UInt64 // (x.1 ≤ l.ss.length) ∧ (x.2.length = l.ss.length) }) [(1, _)] (fun x Lc => (2, .int .i64 ((x.1.1 : Nat) : Int)) :: Lc) (fun x => Mem w (nums [.row l.sv l.ss.length 22 1 (v64s l.ss), .row l.cv l.chs.length 32 16 (v8s l.chs.flatten)]) [.blk b1 30 l.c, .row l.sv l.ss.length 22 1 (v64s x.1.2), .row l.cv l.chs.length 32 16 (v8s l.chs.flatten)] []) (fun x => l.ss.length - x.1.1) ⟨(0, l.ss), ⟨Nat.zero_le _, rfl⟩⟩ zz10 ?_ ?_
  ·
   exact fun w h => h
  ·
   rintro ⟨⟨i, xs⟩, ⟨hi0, hi1⟩⟩; try dsimp only
   have hi0 : i ≤ l.ss.length := hi0; have hi1 : xs.length = l.ss.length := hi1
   refine wpc_seq <| wpc_seq <| wpc_region <| wpl_q (q_pure rfl) rfl <| wpl_q (q_field Tryz.underlying30 rfl Tryz.ti25 rfl rfl _ rfl) rfl <| wpl_q (q_ld Tryz.underlying25 rfl rfl (show l.c[4]? = some (l.sv) from rfl)) rfl ?_
   refine wpl_q (q_lenW Tryz.underlying25 rfl zz5) rfl ?_
   refine wpl_q (q_pure rfl) rfl <| wpl_nil <| ex_then ?_
   refine wpc_cond rfl (fun hc8 => ?_) (fun hc8 => ?_)
   ·
    simp only [decide_eq_true_eq] at hc8
    have hil : i < l.ss.length := by omega
    refine wpc_skip <| ex_then <| wpc_seq <| wpc_block <| wpc_region <| wpl_q (q_field Tryz.underlying30 rfl Tryz.ti25 rfl rfl _ rfl) rfl <| wpl_q (q_ld Tryz.underlying25 rfl rfl (show l.c[4]? = some (l.sv) from rfl)) rfl <| wpl_q (q_pure rfl) rfl ?_
    refine wpl_q (q_idxW1 Tryz.underlying25 Tryz.ti22 rfl rfl zz5 zz1) rfl ?_
    refine wpl_q (q_ldW Tryz.underlying22 rfl rfl (fun w h => zz14) zz49) rfl ?_
    refine wpl_q (q64_add (b := (1 : UInt64)) rfl rfl) rfl ?_
    refine wpl_q (q_idxW1 Tryz.underlying25 Tryz.ti22 rfl rfl zz5 zz1) rfl ?_
    refine wpl_t0 (t_stW Tryz.ti22 rfl rfl rfl (by rw [v64s_length]; omega) _ (v64s_set _)) (fun _ => ?_)
    refine wpl_nil <| ex_block <| ex_then <| wpc_region <| wpl_q (q_pure rfl) rfl ?_
    refine wpl_q (q_addN (b := 1) rfl rfl zz1) rfl ?_
    refine wpl_q (q_pure rfl) rfl <| wpl_nil ?_
    refine ex_again ⟨(i + 1, xs.set i (xs.getD i 0 + 1)), ⟨by show i + 1 ≤ l.ss.length; omega, by show (xs.set i _).length = _; rw [List.length_set]; exact hi1⟩⟩ ?_ ?_ ?_
    ·
     exact zz10
    ·
     exact fun w h => by first | exact h | exact h.sub SubC.h SubC.h | exact h.sub zz6 zz6
    ·
     (show l.ss.length - (i + 1) < l.ss.length - i); omega
   ·
    simp only [decide_eq_false_iff_not] at hc8
    have hx1 := hi1
    refine wpc_exit ?_
    refine ex_then_exit ?_
    refine ex_then_exit ?_
    refine ex_block_hit ?_
    refine ex_then <| wpc_seq <| wpc_region <| wpl_q (q_pure rfl) rfl <| wpl_nil <| ex_then <| wpc_block ?_
    refine wpc_loopc (ι := { x : Nat × List UInt8 // (x.1 ≤ l.chs.length) ∧ (x.2.length = 16 * l.chs.length) }) [(1, _)] (fun x Lc => (3, .int .i64 ((x.1.1 : Nat) : Int)) :: Lc) (fun x => Mem w (nums [.row l.sv l.ss.length 22 1 (v64s l.ss), .row l.cv l.chs.length 32 16 (v8s l.chs.flatten)]) [.blk b1 30 l.c, .row l.sv l.ss.length 22 1 (v64s xs), .row l.cv l.chs.length 32 16 (v8s x.1.2)] []) (fun x => l.chs.length - x.1.1) ⟨(0, l.chs.flatten), ⟨Nat.zero_le _, fl16 hlc⟩⟩ zz10 ?_ ?_
    ·
     exact fun w h => h
    ·
     rintro ⟨⟨i, ys⟩, ⟨hi0, hi1⟩⟩; try dsimp only
     have hi0 : i ≤ l.chs.length := hi0; have hi1 : ys.length = 16 * l.chs.length := hi1
     have hxs := hx1
     refine wpc_seq <| wpc_seq <| wpc_region <| wpl_q (q_pure rfl) rfl <| wpl_q (q_field Tryz.underlying30 rfl Tryz.ti28 rfl rfl _ rfl) rfl <| wpl_q (q_field Tryz.underlying28 rfl Tryz.ti26 rfl rfl _ rfl) rfl <| wpl_q (q_ld Tryz.underlying26 rfl rfl (show l.c[6]? = some (l.cv) from rfl)) rfl ?_
     refine wpl_q (q_lenW Tryz.underlying26 rfl zz5) rfl ?_
     refine wpl_q (q_pure rfl) rfl <| wpl_nil <| ex_then ?_
     refine wpc_cond rfl (fun hc23 => ?_) (fun hc23 => ?_)
     ·
      simp only [decide_eq_true_eq] at hc23
      have hil : i < l.chs.length := by omega
      have hyl : i * 16 + 0 < ys.length := by omega
      refine wpc_skip <| ex_then <| wpc_seq <| wpc_block ?_
      refine wpc_draw 10 zz8 (fun _ h => h.drew) ?_
      refine wpd_p 0 rfl zz8 trivial (q_field Tryz.underlying30 rfl Tryz.ti28 rfl rfl _ rfl) rfl sk0 ?_
      refine wpd_p 1 rfl zz8 trivial (q_field Tryz.underlying28 rfl Tryz.ti26 rfl rfl _ rfl) rfl sk0 ?_
      refine wpd_q 2 rfl zz8 trivial (q_ld Tryz.underlying26 rfl rfl (show l.c[6]? = some (l.cv) from rfl)) rfl (fun _ h => h) ?_
      refine wpd_p 3 rfl zz8 trivial (q_pure rfl) rfl sk0 ?_
      refine wpd_p 4 rfl zz8 trivial (q_idxW Tryz.underlying26 Tryz.ti32 rfl rfl zz5 zz1) rfl sk0 ?_
      refine wpd_p 5 rfl zz8 trivial (q_idxP1 (j := 0) Tryz.underlying32 Tryz.ti5 rfl rfl zz16) rfl sk0 ?_
      refine wpd_q 6 rfl zz8 trivial (q_ldWF Tryz.underlying5 rfl rfl (fun w h => zz14) (v8s_get hyl)) rfl (fun _ h => h) ?_
      refine wpd_p 7 rfl zz8 trivial (q8_add (b := (1 : UInt8)) rfl rfl) rfl sk0 ?_
      refine wpd_p 8 rfl zz8 trivial (q_idxW Tryz.underlying26 Tryz.ti32 rfl rfl zz5 zz1) rfl sk0 ?_
      refine wpd_p 9 rfl zz8 trivial (q_idxP1 (j := 0) Tryz.underlying32 Tryz.ti5 rfl rfl zz16) rfl sk0 ?_
      refine wpd_t0 10 rfl zz8 trivial (t_stWF Tryz.ti5 rfl rfl rfl (by rw [v8s_length]; exact hyl) (v8s (ys.set (i * 16 + 0) (ys.getD (i * 16 + 0) 0 + 1))) (v8s_set _)) (fun _ => skk rfl) (fun _ => ?_)
      refine wpd_done zz8 ?_
      refine ex_block <| ex_then <| wpc_region <| wpl_q (q_pure rfl) rfl ?_
      refine wpl_q (q_addN (b := 1) rfl rfl zz1) rfl ?_
      refine wpl_q (q_pure rfl) rfl <| wpl_nil ?_
      refine ex_again ⟨(i + 1, ys.set (i * 16 + 0) (ys.getD (i * 16 + 0) 0 + 1)), ⟨by show i + 1 ≤ l.chs.length; omega, by show (ys.set _ _).length = _; rw [List.length_set]; exact hi1⟩⟩ ?_ ?_ ?_
      ·
       exact zz10
      ·
       exact fun w h => by first | exact h | exact h.sub SubC.h SubC.h | exact h.sub zz6 zz6
      ·
       (show l.chs.length - (i + 1) < l.chs.length - i); omega
     ·
      simp only [decide_eq_false_iff_not] at hc23
      have hy1 := hi1
      refine wpc_exit ?_
      refine ex_then_exit ?_
      refine ex_then_exit ?_
      refine ex_block_hit ?_
      refine ret0 (.inr rfl) rfl ?_
      exact fun w h => ⟨(xs, ys), ⟨hx1, hy1⟩, rfl, h.sub SubC.h .nil⟩
end Go.Proofs.YtgnablliekgbgaaGreatDoor
namespace Go.Proofs.YtgnablliekgbgaaGreatDoor
open Go Go.PL Go.RowKit
theorem refPower7 (m : Nat) (w : World)  (hm : m ≤ 30) :
    Calls Tryz.prog 37 [.int .i64 ((m : Nat) : Int)].toArray w (Pur w (.int .i64 ((2 ^ m : Nat) : Int))) := by
  refine enter (m := 14) (R := Mem w [] [] []) Tryz.func37 rfl rfl (Nat.le_of_ble_eq_true rfl) (Mem.start w) ?_
  refine wpc_seq <| wpc_region <| wpl_q (q_pure rfl) rfl <| wpl_nil <| ex_then <| wpc_seq <| wpc_region <| wpl_q (q_pure rfl) rfl <| wpl_nil <| ex_then <| wpc_seq <| wpc_seq ?_
  refine wpc_region <| wpl_q (q_pure rfl) rfl <| wpl_nil <| ex_then <| wpc_block ?_
  refine wpc_loopc (ι := { x : Nat × Nat // (x.1 ≤ m) ∧ (x.2 = 2 ^ x.1) }) [(0, _)] (fun x Lc => (4, .int .i64 ((x.1.1 : Nat) : Int)) :: (3, .int .i64 ((x.1.2 : Nat) : Int)) :: Lc) (fun x => Mem w [] [] []) (fun x => m - x.1.1) ⟨(0, 1), ⟨Nat.zero_le _, rfl⟩⟩ zz10 ?_ ?_
  ·
   exact fun w h => h
  ·
   rintro ⟨⟨i, s⟩, ⟨hi0, hi1⟩⟩; try dsimp only
   have hi0 : i ≤ m := hi0; have hi1 : s = 2 ^ i := hi1
   have hp : 2 ^ i ≤ 2 ^ 30 := Nat.pow_le_pow_right zz22 zz16
   refine wpc_seq <| wpc_seq <| wpc_region <| wpl_q (q_pure rfl) rfl <| wpl_q (q_pure rfl) rfl <| wpl_q (q_pure rfl) rfl <| wpl_nil <| ex_then ?_
   refine wpc_cond rfl (fun hc7 => ?_) (fun hc7 => ?_)
   ·
    try simp only [decide_eq_true_eq, decide_eq_false_iff_not, Bool.and_eq_true, Bool.or_eq_true, beq_iff_eq, bne_iff_ne, ne_eq, Bool.not_eq_true', Bool.not_eq_false', Decidable.not_not] at hc7
    refine wpc_skip <| ex_then <| wpc_seq <| wpc_block <| wpc_region <| wpl_q (q_pure rfl) rfl <| wpl_q (q_pure rfl) rfl ?_
    refine wpl_q (q_addN rfl rfl zz1) rfl ?_
    refine wpl_q (q_pure rfl) rfl <| wpl_nil <| ex_block <| ex_then <| wpc_region <| wpl_q (q_pure rfl) rfl ?_
    refine wpl_q (q_addN (b := 1) rfl rfl zz1) rfl ?_
    refine wpl_q (q_pure rfl) rfl <| wpl_nil ?_
    refine ex_again ⟨(i + 1, s + s), ⟨zz16, by rw [Nat.pow_succ]; omega⟩⟩ ?_ ?_ ?_
    ·
     exact zz10
    ·
     exact fun w h => by first | exact h | exact h.sub SubC.h SubC.h | exact h.sub zz6 zz6
    ·
     (show m - (i + 1) < m - i); omega
   ·
    simp only [decide_eq_false_iff_not] at hc7
    obtain rfl : i = m := by omega
    refine wpc_exit ?_
    refine ex_then_exit ?_
    refine ex_then_exit ?_
    refine ex_block_hit ?_
    refine ex_then <| wpc_seq <| wpc_region <| wpl_q (q_pure rfl) rfl <| wpl_q (q_pure rfl) rfl <| wpl_nil <| ex_then <| wpc_ret ?_
    refine ret1 (.inl rfl) rfl rfl ?_
    exact fun w h => ⟨by rw [hi1], h.below⟩
theorem refCheck7 (ht : Int) (ix : Int) (cv pv : Value) (chs ps : List (List UInt8)) (w : World) (hcv : SV cv chs.length) (hpv : SV pv ps.length)  :
    Calls Tryz.prog 66 [.int .i64 ht, .agg #[.int .i64 ix, cv, pv]].toArray w (Pur w (.int .i64 (sgChk ht ix chs.length ps.length))) := by
  haveI : OneC [.int .i64 ix, cv, pv] := OneC.cons rfl (OneC.cons (SV.one hcv) (OneC.cons (SV.one hpv) oneC_nil))
  have lcv := hcv.le
  have lpv := hpv.le
  simp only [maxLen] at lcv lpv
  refine enter (m := 34) (R := Mem w [] [] []) Tryz.func66 rfl rfl (Nat.le_of_ble_eq_true rfl) (Mem.start w) ?_
  refine wpc_seq <| wpc_region ?_
  refine wpl_t (t_box rfl [.int .i64 ix, cv, pv] rfl) rfl (fun b3 => ?_)
  refine wpl_q (q_pure rfl) rfl <| wpl_nil <| ex_then <| wpc_seq <| wpc_seq <| wpc_region <| wpl_q (q_pure rfl) rfl <| wpl_q (q_pure rfl) rfl <| wpl_q (q_pure rfl) rfl ?_
  refine wpl_bool2 7 6 rfl rfl (fun hb7 => ?_) (fun hb7 => ?_)
  ·
   try simp only [decide_eq_true_eq, decide_eq_false_iff_not, Bool.and_eq_true, Bool.or_eq_true, beq_iff_eq, bne_iff_ne, ne_eq, Bool.not_eq_true', Bool.not_eq_false', Decidable.not_not] at hb7
   refine wpl_off rfl rfl rfl rfl <| wpl_off rfl rfl rfl rfl <| wpl_q (q_pure rfl) rfl <| wpl_nil <| ex_then ?_
   refine wpc_cond_t rfl ?_
   refine wpc_seq <| wpc_region <| wpl_q (q_pure rfl) rfl <| wpl_nil <| ex_then <| wpc_ret ?_
   refine ex_then_ret ?_
   refine ret1 (.inl rfl) rfl rfl ?_
   exact fun w h => ⟨by rw [check_2 (by first | omega | (simp only [decide_eq_true_eq] at *; omega))], h.below⟩
  ·
   try simp only [decide_eq_true_eq, decide_eq_false_iff_not, Bool.and_eq_true, Bool.or_eq_true, beq_iff_eq, bne_iff_ne, ne_eq, Bool.not_eq_true', Bool.not_eq_false', Decidable.not_not] at hb7
   refine wpl_on rfl rfl <| wpl_q (q_pure rfl) rfl <| wpl_on rfl rfl <| wpl_q (q_pure rfl) rfl <| wpl_q (q_pure rfl) rfl <| wpl_nil <| ex_then ?_
   refine wpc_cond rfl (fun hc10 => ?_) (fun hc10 => ?_)
   ·
    try simp only [decide_eq_true_eq, decide_eq_false_iff_not, Bool.and_eq_true, Bool.or_eq_true, beq_iff_eq, bne_iff_ne, ne_eq, Bool.not_eq_true', Bool.not_eq_false', Decidable.not_not] at hc10
    refine wpc_seq <| wpc_region <| wpl_q (q_pure rfl) rfl <| wpl_nil <| ex_then <| wpc_ret ?_
    refine ex_then_ret ?_
    refine ret1 (.inl rfl) rfl rfl ?_
    exact fun w h => ⟨by rw [check_2 (by first | omega | (simp only [decide_eq_true_eq] at *; omega))], h.below⟩
   ·
    simp only [decide_eq_false_iff_not, decide_eq_true_eq] at hc10
    obtain ⟨m, rfl⟩ : ∃ m : Nat, ht = (m : Int) := ⟨ht.toNat, zz16⟩
    have hpw := pow_le16 (m := m) zz16
    refine wpc_skip <| ex_then <| wpc_seq <| wpc_seq ?_
    refine wpc_draw 23 zz8 (fun _ h => h.drew) ?_
    refine wpd_p 0 rfl zz8 trivial (q_field Tryz.underlying28 rfl Tryz.ti3 rfl rfl _ rfl) rfl sk0 ?_
    refine wpd_q 1 rfl zz8 trivial (q_ld Tryz.underlying3 rfl rfl zz27) rfl (fun _ h => h) ?_
    refine wpd_p 2 rfl zz8 trivial (q_pure rfl) rfl sk0 ?_
    refine wpd_p 3 rfl zz8 trivial (q_pure rfl) rfl sk0 ?_
    refine wpd_bool2 14 13 rfl rfl (fun hb14 => ?_) (fun hb14 => ?_)
    ·
     try simp only [decide_eq_true_eq, decide_eq_false_iff_not, Bool.and_eq_true, Bool.or_eq_true, beq_iff_eq, bne_iff_ne, ne_eq, Bool.not_eq_true', Bool.not_eq_false', Decidable.not_not] at hb14
     refine wpd_off 4 rfl zz8 ⟨_, _, rfl, rfl, rfl⟩ rfl sk0 ?_
     refine wpd_off 5 rfl zz8 ⟨_, _, rfl, rfl, rfl⟩ rfl sk0 ?_
     refine wpd_off 6 rfl zz8 ⟨_, _, rfl, rfl, rfl⟩ rfl sk0 ?_
     refine wpd_off 7 rfl zz8 ⟨_, _, rfl, rfl, rfl⟩ rfl sk0 ?_
     refine wpd_off 8 rfl zz8 ⟨_, _, rfl, rfl, rfl⟩ rfl sk0 ?_
     refine wpd_p 9 rfl zz8 trivial (q_pure rfl) rfl sk0 ?_
     refine wpd_p 10 rfl zz8 trivial (q_pure rfl) rfl sk0 ?_
     refine wpd_off 11 rfl zz8 ⟨_, _, rfl, rfl, rfl⟩ rfl sk0 ?_
     refine wpd_off 12 rfl zz8 ⟨_, _, rfl, rfl, rfl⟩ rfl sk0 ?_
     refine wpd_off 13 rfl zz8 ⟨_, _, rfl, rfl, rfl⟩ rfl sk0 ?_
     refine wpd_off 14 rfl zz8 ⟨_, _, rfl, rfl, rfl⟩ rfl sk0 ?_
     refine wpd_p 15 rfl zz8 trivial (q_pure rfl) rfl sk0 ?_
     refine wpd_p 16 rfl zz8 trivial (q_pure rfl) rfl sk0 ?_
     refine wpd_off 17 rfl zz8 ⟨_, _, rfl, rfl, rfl⟩ rfl sk0 ?_
     refine wpd_off 18 rfl zz8 ⟨_, _, rfl, rfl, rfl⟩ rfl sk0 ?_
     refine wpd_off 19 rfl zz8 ⟨_, _, rfl, rfl, rfl⟩ rfl sk0 ?_
     refine wpd_off 20 rfl zz8 ⟨_, _, rfl, rfl, rfl⟩ rfl sk0 ?_
     refine wpd_off 21 rfl zz8 ⟨_, _, rfl, rfl, rfl⟩ rfl sk0 ?_
     refine wpd_p 22 rfl zz8 trivial (q_pure rfl) rfl sk0 ?_
     refine wpd_done zz8 ?_
     refine ex_then ?_
     refine wpc_cond_t rfl ?_
     refine wpc_seq <| wpc_region <| wpl_q (q_pure rfl) rfl <| wpl_nil <| ex_then <| wpc_ret ?_
     refine ex_then_ret ?_
     refine ret1 (.inl rfl) rfl rfl ?_
     exact fun w h => ⟨by rw [check_12 zz16 zz28], h.below⟩
    ·
     try simp only [decide_eq_true_eq, decide_eq_false_iff_not, Bool.and_eq_true, Bool.or_eq_true, beq_iff_eq, bne_iff_ne, ne_eq, Bool.not_eq_true', Bool.not_eq_false', Decidable.not_not] at hb14
     refine wpd_p 4 rfl zz8 ⟨_, rfl, rfl⟩ (q_field Tryz.underlying28 rfl Tryz.ti3 rfl rfl _ rfl) rfl sk0 ?_
     refine wpd_q 5 rfl zz8 ⟨_, rfl, rfl⟩ (q_ld Tryz.underlying3 rfl rfl zz27) rfl (fun _ h => h) ?_
     refine wpd_p 6 rfl zz8 ⟨_, rfl, rfl⟩ (q_pure rfl) rfl sk0 ?_
     refine wpd_t 7 rfl zz8 ⟨_, rfl, rfl⟩ (t_pur Tryz.hb37 rfl fun w h => refPower7 m w zz16) rfl (fun _ => sk0) (fun b18 => ?_)
     refine wpd_p 8 rfl zz8 ⟨_, rfl, rfl⟩ (q_pure rfl) rfl sk0 ?_
     refine wpd_p 9 rfl zz8 trivial (q_pure rfl) rfl sk0 ?_
     refine wpd_p 10 rfl zz8 trivial (q_pure rfl) rfl sk0 ?_
     refine wpd_bool2 21 19 rfl rfl (fun hb21 => ?_) (fun hb21 => ?_)
     ·
      try simp only [decide_eq_true_eq, decide_eq_false_iff_not, Bool.and_eq_true, Bool.or_eq_true, beq_iff_eq, bne_iff_ne, ne_eq, Bool.not_eq_true', Bool.not_eq_false', Decidable.not_not] at hb21
      refine wpd_off 11 rfl zz8 ⟨_, _, rfl, rfl, rfl⟩ rfl sk0 ?_
      refine wpd_off 12 rfl zz8 ⟨_, _, rfl, rfl, rfl⟩ rfl sk0 ?_
      refine wpd_off 13 rfl zz8 ⟨_, _, rfl, rfl, rfl⟩ rfl sk0 ?_
      refine wpd_off 14 rfl zz8 ⟨_, _, rfl, rfl, rfl⟩ rfl sk0 ?_
      refine wpd_p 15 rfl zz8 trivial (q_pure rfl) rfl sk0 ?_
      refine wpd_p 16 rfl zz8 trivial (q_pure rfl) rfl sk0 ?_
      refine wpd_off 17 rfl zz8 ⟨_, _, rfl, rfl, rfl⟩ rfl sk0 ?_
      refine wpd_off 18 rfl zz8 ⟨_, _, rfl, rfl, rfl⟩ rfl sk0 ?_
      refine wpd_off 19 rfl zz8 ⟨_, _, rfl, rfl, rfl⟩ rfl sk0 ?_
      refine wpd_off 20 rfl zz8 ⟨_, _, rfl, rfl, rfl⟩ rfl sk0 ?_
      refine wpd_off 21 rfl zz8 ⟨_, _, rfl, rfl, rfl⟩ rfl sk0 ?_
      refine wpd_p 22 rfl zz8 trivial (q_pure rfl) rfl sk0 ?_
      refine wpd_done zz8 ?_
      refine ex_then ?_
      refine wpc_cond_t rfl ?_
      refine wpc_seq <| wpc_region <| wpl_q (q_pure rfl) rfl <| wpl_nil <| ex_then <| wpc_ret ?_
      refine ex_then_ret ?_
      refine ret1 (.inl rfl) rfl rfl ?_
      exact fun w h => ⟨by rw [check_12 zz16 zz28], h.below⟩
     ·
      try simp only [decide_eq_true_eq, decide_eq_false_iff_not, Bool.and_eq_true, Bool.or_eq_true, beq_iff_eq, bne_iff_ne, ne_eq, Bool.not_eq_true', Bool.not_eq_false', Decidable.not_not] at hb21
      refine wpd_p 11 rfl zz8 ⟨_, rfl, rfl⟩ (q_field Tryz.underlying28 rfl Tryz.ti26 rfl rfl _ rfl) rfl sk0 ?_
      refine wpd_q 12 rfl zz8 ⟨_, rfl, rfl⟩ (q_ld Tryz.underlying26 rfl rfl rfl) rfl (fun _ h => h) ?_
      refine wpd_p 13 rfl zz8 ⟨_, rfl, rfl⟩ (q_lenW Tryz.underlying26 rfl zz5) rfl sk0 ?_
      refine wpd_p 14 rfl zz8 ⟨_, rfl, rfl⟩ (q_pure rfl) rfl sk0 ?_
      refine wpd_p 15 rfl zz8 trivial (q_pure rfl) rfl sk0 ?_
      refine wpd_p 16 rfl zz8 trivial (q_pure rfl) rfl sk0 ?_
      refine wpd_bool2 27 25 rfl rfl (fun hb27 => ?_) (fun hb27 => ?_)
      ·
       try simp only [decide_eq_true_eq, decide_eq_false_iff_not, Bool.and_eq_true, Bool.or_eq_true, beq_iff_eq, bne_iff_ne, ne_eq, Bool.not_eq_true', Bool.not_eq_false', Decidable.not_not] at hb27
       refine wpd_off 17 rfl zz8 ⟨_, _, rfl, rfl, rfl⟩ rfl sk0 ?_
       refine wpd_off 18 rfl zz8 ⟨_, _, rfl, rfl, rfl⟩ rfl sk0 ?_
       refine wpd_off 19 rfl zz8 ⟨_, _, rfl, rfl, rfl⟩ rfl sk0 ?_
       refine wpd_off 20 rfl zz8 ⟨_, _, rfl, rfl, rfl⟩ rfl sk0 ?_
       refine wpd_off 21 rfl zz8 ⟨_, _, rfl, rfl, rfl⟩ rfl sk0 ?_
       refine wpd_p 22 rfl zz8 trivial (q_pure rfl) rfl sk0 ?_
       refine wpd_done zz8 ?_
       refine ex_then ?_
       refine wpc_cond_t rfl ?_
       refine wpc_seq <| wpc_region <| wpl_q (q_pure rfl) rfl <| wpl_nil <| ex_then <| wpc_ret ?_
       refine ex_then_ret ?_
       refine ret1 (.inl rfl) rfl rfl ?_
       exact fun w h => ⟨by rw [check_12 zz16 zz28], h.below⟩
      ·
       try simp only [decide_eq_true_eq, decide_eq_false_iff_not, Bool.and_eq_true, Bool.or_eq_true, beq_iff_eq, bne_iff_ne, ne_eq, Bool.not_eq_true', Bool.not_eq_false', Decidable.not_not] at hb27
       refine wpd_p 17 rfl zz8 ⟨_, rfl, rfl⟩ (q_field Tryz.underlying28 rfl Tryz.ti26 rfl rfl _ rfl) rfl sk0 ?_
       refine wpd_q 18 rfl zz8 ⟨_, rfl, rfl⟩ (q_ld Tryz.underlying26 rfl rfl rfl) rfl (fun _ h => h) ?_
       refine wpd_p 19 rfl zz8 ⟨_, rfl, rfl⟩ (q_lenW Tryz.underlying26 rfl zz5) rfl sk0 ?_
       refine wpd_p 20 rfl zz8 ⟨_, rfl, rfl⟩ (q_pure rfl) rfl sk0 ?_
       refine wpd_p 21 rfl zz8 ⟨_, rfl, rfl⟩ (q_pure rfl) rfl sk0 ?_
       refine wpd_p 22 rfl zz8 trivial (q_pure rfl) rfl sk0 ?_
       refine wpd_done zz8 ?_
       refine ex_then ?_
       refine wpc_cond rfl (fun hc33 => ?_) (fun hc33 => ?_)
       ·
        try simp only [decide_eq_true_eq, decide_eq_false_iff_not, Bool.and_eq_true, Bool.or_eq_true, beq_iff_eq, bne_iff_ne, ne_eq, Bool.not_eq_true', Bool.not_eq_false', Decidable.not_not] at hc33
        refine wpc_seq <| wpc_region <| wpl_q (q_pure rfl) rfl <| wpl_nil <| ex_then <| wpc_ret ?_
        refine ex_then_ret ?_
        refine ret1 (.inl rfl) rfl rfl ?_
        exact fun w h => ⟨by rw [check_12 zz16 zz28], h.below⟩
       ·
        simp only [bne_eq_false_iff_eq, decide_eq_false_iff_not, ne_eq, Decidable.not_not] at hc33 hb27
        refine wpc_skip <| ex_then <| wpc_seq <| wpc_region <| wpl_q (q_pure rfl) rfl <| wpl_nil <| ex_then <| wpc_ret ?_
        refine ret1 (.inl rfl) rfl rfl ?_
        exact fun w h => ⟨by rw [check_0 zz16 zz16], h.below⟩
theorem signed10 (ix : Int) (cv pv : Value) (chs ps : List (List UInt8)) (w : World) (hcv : SV cv chs.length) (hpv : SV pv ps.length)  :
    Calls Tryz.prog 65 [.agg #[.int .i64 ix, cv, pv]].toArray w (Pur w (.bool (sigB ix chs.length ps.length))) := by
  haveI : OneC [.int .i64 ix, cv, pv] := OneC.cons rfl (OneC.cons (SV.one hcv) (OneC.cons (SV.one hpv) oneC_nil))
  have lcv := hcv.le
  have lpv := hpv.le
  simp only [maxLen] at lcv lpv
  refine enter (m := 18) (R := Mem w [] [] []) Tryz.func65 rfl rfl (Nat.le_of_ble_eq_true rfl) (Mem.start w) ?_
  refine wpc_seq <| wpc_region ?_
  refine wpl_t (t_box rfl [.int .i64 ix, cv, pv] rfl) rfl (fun b1 => ?_)
  refine wpl_q (q_pure rfl) rfl <| wpl_nil <| ex_then <| wpc_seq <| wpc_region <| wpl_q (q_field Tryz.underlying28 rfl Tryz.ti3 rfl rfl _ rfl) rfl ?_
  refine wpl_q (q_ld Tryz.underlying3 rfl rfl zz27) rfl ?_
  refine wpl_q (q_pure rfl) rfl <| wpl_q (q_pure rfl) rfl ?_
  refine wpl_bool2 6 5 rfl rfl (fun hb6 => ?_) (fun hb6 => ?_)
  ·
   try simp only [decide_eq_true_eq, decide_eq_false_iff_not, Bool.and_eq_true, Bool.or_eq_true, beq_iff_eq, bne_iff_ne, ne_eq, Bool.not_eq_true', Bool.not_eq_false', Decidable.not_not] at hb6
   refine wpl_off rfl rfl rfl rfl <| wpl_off rfl rfl rfl rfl <| wpl_off rfl rfl rfl rfl <| wpl_off rfl rfl rfl rfl <| wpl_q (q_pure rfl) rfl <| wpl_q (q_pure rfl) rfl <| wpl_off rfl rfl rfl rfl <| wpl_off rfl rfl rfl rfl <| wpl_off rfl rfl rfl rfl <| wpl_off rfl rfl rfl rfl <| wpl_q (q_pure rfl) rfl <| wpl_q (q_pure rfl) rfl ?_
   refine wpl_nil <| ex_then <| wpc_ret ?_
   refine ret1 (.inl rfl) rfl rfl ?_
   exact fun w h => ⟨congrArg (fun b => Ending.returned (Value.bool b)) (by
     (try simp only [bne_iff_ne, ne_eq, bne_eq_false_iff_eq, decide_eq_true_eq, decide_eq_false_iff_not, gt_iff_lt] at *)
     first
     | exact (show sigB ix chs.length ps.length = true from zz43).symm
     | (rw [Bool.eq_iff_iff]; simp only [sigB, Bool.or_eq_true, decide_eq_true_eq]; omega)), h.below⟩
  ·
   try simp only [decide_eq_true_eq, decide_eq_false_iff_not, Bool.and_eq_true, Bool.or_eq_true, beq_iff_eq, bne_iff_ne, ne_eq, Bool.not_eq_true', Bool.not_eq_false', Decidable.not_not] at hb6
   refine wpl_on rfl rfl <| wpl_q (q_field Tryz.underlying28 rfl Tryz.ti26 rfl rfl _ rfl) rfl <| wpl_on rfl rfl <| wpl_q (q_ld Tryz.underlying26 rfl rfl rfl) rfl <| wpl_on rfl rfl ?_
   refine wpl_q (q_lenW Tryz.underlying26 rfl zz5) rfl ?_
   refine wpl_on rfl rfl <| wpl_q (q_pure rfl) rfl <| wpl_q (q_pure rfl) rfl <| wpl_q (q_pure rfl) rfl ?_
   refine wpl_bool2 12 10 rfl rfl (fun hb12 => ?_) (fun hb12 => ?_)
   ·
    try simp only [decide_eq_true_eq, decide_eq_false_iff_not, Bool.and_eq_true, Bool.or_eq_true, beq_iff_eq, bne_iff_ne, ne_eq, Bool.not_eq_true', Bool.not_eq_false', Decidable.not_not] at hb12
    refine wpl_off rfl rfl rfl rfl <| wpl_off rfl rfl rfl rfl <| wpl_off rfl rfl rfl rfl <| wpl_off rfl rfl rfl rfl <| wpl_q (q_pure rfl) rfl <| wpl_q (q_pure rfl) rfl <| wpl_nil <| ex_then <| wpc_ret ?_
    refine ret1 (.inl rfl) rfl rfl ?_
    exact fun w h => ⟨congrArg (fun b => Ending.returned (Value.bool b)) (by
      (try simp only [bne_iff_ne, ne_eq, bne_eq_false_iff_eq, decide_eq_true_eq, decide_eq_false_iff_not, gt_iff_lt] at *)
      first
      | exact (show sigB ix chs.length ps.length = true from zz43).symm
      | (rw [Bool.eq_iff_iff]; simp only [sigB, Bool.or_eq_true, decide_eq_true_eq]; omega)), h.below⟩
   ·
    try simp only [decide_eq_true_eq, decide_eq_false_iff_not, Bool.and_eq_true, Bool.or_eq_true, beq_iff_eq, bne_iff_ne, ne_eq, Bool.not_eq_true', Bool.not_eq_false', Decidable.not_not] at hb12
    refine wpl_on rfl rfl <| wpl_q (q_field Tryz.underlying28 rfl Tryz.ti26 rfl rfl _ rfl) rfl <| wpl_on rfl rfl <| wpl_q (q_ld Tryz.underlying26 rfl rfl rfl) rfl <| wpl_on rfl rfl ?_
    refine wpl_q (q_lenW Tryz.underlying26 rfl zz5) rfl ?_
    refine wpl_on rfl rfl <| wpl_q (q_pure rfl) rfl <| wpl_q (q_pure rfl) rfl <| wpl_q (q_pure rfl) rfl <| wpl_nil <| ex_then <| wpc_ret ?_
    refine ret1 (.inl rfl) rfl rfl ?_
    exact fun w h => ⟨congrArg (fun b => Ending.returned (Value.bool b)) (by
      (try simp only [bne_iff_ne, ne_eq, bne_eq_false_iff_eq, decide_eq_true_eq, decide_eq_false_iff_not, gt_iff_lt] at *)
      first
      | exact (show sigB ix chs.length ps.length = true from zz43).symm
      | (rw [Bool.eq_iff_iff]; simp only [sigB, Bool.or_eq_true, decide_eq_true_eq]; omega)), h.below⟩
theorem goodSig (ix : Int) (cv pv : Value) (chs ps : List (List UInt8)) (w : World) (hcv : SV cv chs.length) (hpv : SV pv ps.length)  :
    Calls Tryz.prog 36 [.agg #[.int .i64 ix, cv, pv]].toArray w (Pur w (.bool (gsigB ix chs.length ps.length))) := by
  haveI : OneC [.int .i64 ix, cv, pv] := OneC.cons rfl (OneC.cons (SV.one hcv) (OneC.cons (SV.one hpv) oneC_nil))
  have lcv := hcv.le
  have lpv := hpv.le
  simp only [maxLen] at lcv lpv
  refine enter (m := 14) (R := Mem w [] [] []) Tryz.func36 rfl rfl (Nat.le_of_ble_eq_true rfl) (Mem.start w) ?_
  refine wpc_seq <| wpc_region ?_
  refine wpl_t (t_box rfl [.int .i64 ix, cv, pv] rfl) rfl (fun b1 => ?_)
  refine wpl_q (q_pure rfl) rfl <| wpl_nil <| ex_then <| wpc_seq <| wpc_region <| wpl_q (q_ldN Tryz.underlying28 rfl Tryz.ti28 rfl LenC.h) rfl ?_
  refine wpl_t (t_pur Tryz.hb65 rfl fun w h => signed10 ix cv pv chs ps w hcv hpv) rfl (fun b4 => ?_)
  refine wpl_q (q_pure rfl) rfl <| wpl_q (q_pure rfl) rfl ?_
  refine wpl_bool2 6 5 rfl rfl (fun hb6 => ?_) (fun hb6 => ?_)
  ·
   try simp only [decide_eq_true_eq, decide_eq_false_iff_not, Bool.and_eq_true, Bool.or_eq_true, beq_iff_eq, bne_iff_ne, ne_eq, Bool.not_eq_true', Bool.not_eq_false', Decidable.not_not] at hb6
   refine wpl_off rfl rfl rfl rfl <| wpl_off rfl rfl rfl rfl <| wpl_off rfl rfl rfl rfl <| wpl_off rfl rfl rfl rfl <| wpl_off rfl rfl rfl rfl <| wpl_off rfl rfl rfl rfl <| wpl_q (q_pure rfl) rfl <| wpl_q (q_pure rfl) rfl <| wpl_nil <| ex_then <| wpc_ret ?_
   refine ret1 (.inl rfl) rfl rfl ?_
   exact fun w h => ⟨congrArg (fun b => Ending.returned (Value.bool b)) (by unfold gsigB; first | (rw [hb6]; rfl) | (rw [hb6]; done) | (simp at hb6; rw [hb6]; simp; done) | (simp at hb6; rw [hb6]; rfl) | simp_all), h.below⟩
  ·
   try simp only [decide_eq_true_eq, decide_eq_false_iff_not, Bool.and_eq_true, Bool.or_eq_true, beq_iff_eq, bne_iff_ne, ne_eq, Bool.not_eq_true', Bool.not_eq_false', Decidable.not_not] at hb6
   refine wpl_on rfl rfl <| wpl_q (q_field Tryz.underlying28 rfl Tryz.ti26 rfl rfl _ rfl) rfl <| wpl_on rfl rfl <| wpl_q (q_ld Tryz.underlying26 rfl rfl rfl) rfl <| wpl_on rfl rfl ?_
   refine wpl_q (q_lenW Tryz.underlying26 rfl zz5) rfl ?_
   refine wpl_on rfl rfl <| wpl_q (q_ldN Tryz.underlying28 rfl Tryz.ti28 rfl LenC.h) rfl <| wpl_on rfl rfl ?_
   refine wpl_t (t_pur Tryz.hb66 rfl fun w h => refCheck7 ((ps.length : Nat) : Int) ix cv pv chs ps w hcv hpv) rfl (fun b11 => ?_)
   refine wpl_on rfl rfl <| wpl_q (q_pure rfl) rfl <| wpl_q (q_pure rfl) rfl <| wpl_q (q_pure rfl) rfl <| wpl_nil <| ex_then <| wpc_ret ?_
   refine ret1 (.inl rfl) rfl rfl ?_
   exact fun w h => ⟨congrArg (fun b => Ending.returned (Value.bool b)) (by unfold gsigB; first | (rw [hb6]; rfl) | (rw [hb6]; done) | (simp at hb6; rw [hb6]; simp; done) | (simp at hb6; rw [hb6]; rfl) | simp_all), h.below⟩
end Go.Proofs.YtgnablliekgbgaaGreatDoor
namespace Go.Proofs.YtgnablliekgbgaaGreatDoor
open Go Go.PL Go.RowKit
theorem refRvCheck (l : Rv) (w : World) (hl : l.seen w.cell?) (hnl : l.nm.length ≤ maxLen)  :
    Calls Tryz.prog 17 [.agg l.c.toArray].toArray w (Pur w (.int .i64 (chkR l))) := by
  haveI := hl.svs.one
  have lss := hl.s.sv.le
  have lcs := hl.c.sv.le
  have lps := hl.p.sv.le
  have sss := hl.s.sv
  have scs := hl.c.sv
  have sps := hl.p.sv
  simp only [maxLen] at lss lcs lps
  refine enter (m := 44) (R := Mem w [] [] []) Tryz.func17 rfl rfl (Nat.le_of_ble_eq_true rfl) (Mem.start w) ?_
  refine wpc_seq <| wpc_region ?_
  refine wpl_t (t_box rfl l.c rfl) rfl (fun b1 => ?_)
  refine wpl_q (q_pure rfl) rfl <| wpl_nil <| ex_then <| wpc_seq <| wpc_seq <| wpc_region <| wpl_q (q_field Tryz.underlying30 rfl Tryz.ti25 rfl rfl _ rfl) rfl <| wpl_q (q_ld Tryz.underlying25 rfl rfl (show l.c[4]? = some (l.sv) from rfl)) rfl ?_
  refine wpl_q (q_lenW Tryz.underlying25 rfl zz5) rfl ?_
  refine wpl_q (q_pure rfl) rfl <| wpl_nil <| ex_then ?_
  refine wpc_cond rfl (fun hc8 => ?_) (fun hc8 => ?_)
  ·
   have h5 : 500 < l.ss.length := by have := of_decide_eq_true hc8; omega
   refine wpc_seq <| wpc_region <| wpl_q (q_pure rfl) rfl <| wpl_nil <| ex_then <| wpc_ret ?_
   refine ex_then_ret ?_
   refine ret1 (.inl rfl) rfl rfl ?_
   exact fun w h => ⟨by rw [chk_4 h5], h.below⟩
  ·
   have h5 : ¬ 500 < l.ss.length := by have := of_decide_eq_false hc8; omega
   refine wpc_skip <| ex_then <| wpc_seq <| wpc_seq <| wpc_region <| wpl_q (q_field Tryz.underlying30 rfl Tryz.ti9 rfl rfl _ rfl) rfl <| wpl_q (q_ld Tryz.underlying9 rfl rfl (show l.c[0]? = some (str l.nm) from rfl)) rfl ?_
   refine wpl_t (t_pur Tryz.hb34 rfl fun w h => refName l.nm w hnl) rfl (fun b11 => ?_)
   refine wpl_q (q_pure rfl) rfl <| wpl_q (q_pure rfl) rfl ?_
   refine wpl_bool2 13 12 rfl rfl (fun hb13 => ?_) (fun hb13 => ?_)
   ·
    have hn : nameF l.nm = false := by simpa using hb13
    refine wpl_off rfl rfl rfl rfl <| wpl_off rfl rfl rfl rfl <| wpl_off rfl rfl rfl rfl <| wpl_off rfl rfl rfl rfl <| wpl_q (q_pure rfl) rfl <| wpl_q (q_pure rfl) rfl <| wpl_off rfl rfl rfl rfl <| wpl_off rfl rfl rfl rfl <| wpl_off rfl rfl rfl rfl <| wpl_off rfl rfl rfl rfl <| wpl_q (q_pure rfl) rfl <| wpl_nil ?_
    refine ex_then ?_
    refine wpc_cond_t rfl ?_
    refine wpc_seq <| wpc_region <| wpl_q (q_pure rfl) rfl <| wpl_nil <| ex_then <| wpc_ret ?_
    refine ex_then_ret ?_
    refine ret1 (.inl rfl) rfl rfl ?_
    exact fun w h => ⟨zz50, h.below⟩
   ·
    have hn : nameF l.nm = true := by simpa using hb13
    refine wpl_on rfl rfl <| wpl_q (q_field Tryz.underlying30 rfl Tryz.ti24 rfl rfl _ rfl) rfl <| wpl_on rfl rfl <| wpl_q (q_ldP Tryz.underlying24 rfl Tryz.ti24 rfl l.win rfl rfl) rfl <| wpl_on rfl rfl ?_
    refine wpl_t (t_pur Tryz.hb35 rfl fun w h => refCheck4 l.fr l.tt w) rfl (fun b16 => ?_)
    refine wpl_on rfl rfl <| wpl_q (q_pure rfl) rfl <| wpl_q (q_pure rfl) rfl <| wpl_q (q_pure rfl) rfl ?_
    refine wpl_bool2 19 17 rfl rfl (fun hb19 => ?_) (fun hb19 => ?_)
    ·
     have hw : winF l.fr l.tt = false := by cases h : winF l.fr l.tt with | false => rfl | true => (rw [h] at hb19; cases hb19)
     refine wpl_off rfl rfl rfl rfl <| wpl_off rfl rfl rfl rfl <| wpl_off rfl rfl rfl rfl <| wpl_off rfl rfl rfl rfl <| wpl_q (q_pure rfl) rfl <| wpl_nil <| ex_then ?_
     refine wpc_cond_t rfl ?_
     refine wpc_seq <| wpc_region <| wpl_q (q_pure rfl) rfl <| wpl_nil <| ex_then <| wpc_ret ?_
     refine ex_then_ret ?_
     refine ret1 (.inl rfl) rfl rfl ?_
     exact fun w h => ⟨zz50, h.below⟩
    ·
     have hw : winF l.fr l.tt = true := by cases h : winF l.fr l.tt with | true => rfl | false => (rw [h] at hb19; cases hb19)
     refine wpl_on rfl rfl <| wpl_q (q_field Tryz.underlying30 rfl Tryz.ti28 rfl rfl _ rfl) rfl <| wpl_on rfl rfl <| wpl_q (q_ldP Tryz.underlying28 rfl Tryz.ti28 rfl l.sig rfl rfl) rfl <| wpl_on rfl rfl ?_
     refine wpl_t (t_pur Tryz.hb36 rfl fun w h => goodSig l.ix l.cv l.pv l.chs l.ps w scs sps) rfl (fun b22 => ?_)
     refine wpl_on rfl rfl <| wpl_q (q_pure rfl) rfl <| wpl_q (q_pure rfl) rfl <| wpl_nil <| ex_then ?_
     refine wpc_cond rfl (fun hc24 => ?_) (fun hc24 => ?_)
     ·
      have hg : (gsigB l.ix l.chs.length l.ps.length) = false := by rw [Bool.not_eq_true'] at hc24; exact hc24
      refine wpc_seq <| wpc_region <| wpl_q (q_pure rfl) rfl <| wpl_nil <| ex_then <| wpc_ret ?_
      refine ex_then_ret ?_
      refine ret1 (.inl rfl) rfl rfl ?_
      exact fun w h => ⟨zz50, h.below⟩
     ·
      have hg : (gsigB l.ix l.chs.length l.ps.length) = true := by rw [Bool.not_eq_false'] at hc24; exact hc24
      have hA : okA l = true := by unfold okA; rw [hn, hw, hg]; rfl
      refine wpc_skip <| ex_then <| wpc_seq <| wpc_region <| wpl_q (q_pure rfl) rfl <| wpl_nil <| ex_then <| wpc_seq <| wpc_seq <| wpc_region <| wpl_q (q_pure rfl) rfl <| wpl_nil ?_
      refine ex_then <| wpc_block ?_
      refine wpc_loopc (ι := { x : Nat // (x ≤ l.ss.length) ∧ (incF l.ss x) }) [(1, _)] (fun x Lc => (4, .int .i64 ((x.1 : Nat) : Int)) :: (3, .int .u64 ((lastN l.ss x.1).toNat : Int)) :: Lc) (fun x => Mem w [] [.blk b1 30 l.c] []) (fun x => l.ss.length - x.1) ⟨0, ⟨Nat.zero_le _, incF_0 _⟩⟩ zz10 ?_ ?_
      ·
       exact fun w h => h
      ·
       rintro ⟨i, ⟨hi0, hi1⟩⟩; try dsimp only
       have hi0 : i ≤ l.ss.length := hi0; have hi1 : incF l.ss i := hi1
       refine wpc_seq <| wpc_seq <| wpc_region <| wpl_q (q_pure rfl) rfl <| wpl_q (q_field Tryz.underlying30 rfl Tryz.ti25 rfl rfl _ rfl) rfl <| wpl_q (q_ld Tryz.underlying25 rfl rfl (show l.c[4]? = some (l.sv) from rfl)) rfl ?_
       refine wpl_q (q_lenW Tryz.underlying25 rfl zz5) rfl ?_
       refine wpl_q (q_pure rfl) rfl <| wpl_nil <| ex_then ?_
       refine wpc_cond rfl (fun hc29 => ?_) (fun hc29 => ?_)
       ·
        simp only [decide_eq_true_eq] at hc29
        have hil : i < l.ss.length := by omega
        refine wpc_skip <| ex_then <| wpc_seq <| wpc_block <| wpc_seq <| wpc_seq <| wpc_region <| wpl_q (q_field Tryz.underlying30 rfl Tryz.ti25 rfl rfl _ rfl) rfl <| wpl_q (q_ld Tryz.underlying25 rfl rfl (show l.c[4]? = some (l.sv) from rfl)) rfl <| wpl_q (q_pure rfl) rfl ?_
        refine wpl_q (q_idxW1 Tryz.underlying25 Tryz.ti22 rfl rfl zz5 zz1) rfl ?_
        refine wpl_q (q_ldW Tryz.underlying22 rfl rfl (fun w h => h.seen_old hl.s) zz49) rfl ?_
        refine wpl_q (q_pure rfl) rfl <| wpl_q (q_pure rfl) rfl <| wpl_nil <| ex_then ?_
        refine wpc_cond rfl (fun hc38 => ?_) (fun hc38 => ?_)
        ·
         have hbad : ¬ incF l.ss (i + 1) := fun q => by
           have q2 := (incF_S.1 q).2
           have q3 := of_decide_eq_true hc38
           rw [UInt64.lt_iff_toNat_lt] at q2
           first | (rw [UInt64.le_iff_toNat_le] at q3; omega) | omega
         refine wpc_seq <| wpc_region <| wpl_q (q_pure rfl) rfl <| wpl_nil <| ex_then <| wpc_ret ?_
         refine ex_then_ret ?_
         refine ex_block_ret ?_
         refine ex_then_ret ?_
         refine ex_then_ret ?_
         refine ex_block_ret ?_
         refine ex_then_ret ?_
         refine ret1 (.inl rfl) rfl rfl ?_
         exact fun w h => ⟨by rw [chk_8 h5 (okR_I (incF_no hbad zz16))], h.below⟩
        ·
         have hin : incF l.ss (i + 1) := incF_S.2 ⟨hi1, by
           have q3 := of_decide_eq_false hc38
           rw [UInt64.lt_iff_toNat_lt]
           first | (rw [UInt64.le_iff_toNat_le] at q3; omega) | omega⟩
         refine wpc_skip <| ex_then <| wpc_region <| wpl_q (q_field Tryz.underlying30 rfl Tryz.ti25 rfl rfl _ rfl) rfl <| wpl_q (q_ld Tryz.underlying25 rfl rfl (show l.c[4]? = some (l.sv) from rfl)) rfl <| wpl_q (q_pure rfl) rfl ?_
         refine wpl_q (q_idxW1 Tryz.underlying25 Tryz.ti22 rfl rfl zz5 zz1) rfl ?_
         refine wpl_q (q_ldW Tryz.underlying22 rfl rfl (fun w h => h.seen_old hl.s) zz49) rfl ?_
         refine wpl_q (q_pure rfl) rfl <| wpl_nil <| ex_block <| ex_then <| wpc_region <| wpl_q (q_pure rfl) rfl ?_
         refine wpl_q (q_addN (b := 1) rfl rfl zz1) rfl ?_
         refine wpl_q (q_pure rfl) rfl <| wpl_nil ?_
         refine ex_again ⟨i + 1, ⟨by show i + 1 ≤ l.ss.length; omega, hin⟩⟩ ?_ ?_ ?_
         ·
          exact zz10
         ·
          exact fun w h => by first | exact h | exact h.sub SubC.h SubC.h | exact h.sub zz6 zz6
         ·
          (show l.ss.length - (i + 1) < l.ss.length - i); omega
       ·
        simp only [decide_eq_false_iff_not] at hc29
        obtain rfl : i = l.ss.length := by omega
        refine wpc_exit ?_
        refine ex_then_exit ?_
        refine ex_then_exit ?_
        refine ex_block_hit ?_
        refine ex_then <| wpc_seq <| wpc_region <| wpl_q (q_pure rfl) rfl <| wpl_nil <| ex_then <| wpc_ret ?_
        refine ret1 (.inl rfl) rfl rfl ?_
        exact fun w h => ⟨by rw [chk_ok h5 (okR_ok hA hi1)], h.below⟩
end Go.Proofs.YtgnablliekgbgaaGreatDoor
namespace Go.Proofs.YtgnablliekgbgaaGreatDoor
open Go Go.PL Go.RowKit
theorem big_no {l : Rv} (h : bigR l = false) : l.nm.length ≤ 500 ∧ l.ss.length ≤ 520 ∧ l.chs.length ≤ 60 ∧ l.ps.length ≤ 60 := by
  unfold bigR at h
  simp only [Bool.or_eq_false_iff, decide_eq_false_iff_not] at h
  omega
end Go.Proofs.YtgnablliekgbgaaGreatDoor
namespace Go.Proofs.YtgnablliekgbgaaGreatDoor
open Go Go.PL Go.RowKit
inductive Tr where
  | nd (t : UInt8) (bs : List UInt8) (l : List Tr)
inductive HT where
  | nd (t : UInt8) (bv : Value) (bs : List UInt8) (lv : Value) (l : List HT)
mutual
def HT.tr : HT → Tr
  | .nd t _ bs _ l => .nd t bs (trs l)
def trs : List HT → List Tr
  | [] => []
  | x :: l => x.tr :: trs l
end
theorem HT.ind {P : HT → Prop} (h : ∀ t bv bs lv l, (∀ x ∈ l, P x) → P (.nd t bv bs lv l)) : ∀ t, P t
  | .nd t bv bs lv l => h t bv bs lv l (fun x _ => HT.ind h x)
termination_by t => SizeOf.sizeOf t
decreasing_by
  have := List.sizeOf_lt_of_mem ‹x ∈ l›
  simp only [HT.nd.sizeOf_spec]; omega
theorem Tr.ind {P : Tr → Prop} (h : ∀ t bs l, (∀ x ∈ l, P x) → P (.nd t bs l)) : ∀ t, P t
  | .nd t bs l => h t bs l (fun x _ => Tr.ind h x)
termination_by t => SizeOf.sizeOf t
decreasing_by
  have := List.sizeOf_lt_of_mem ‹x ∈ l›
  simp only [Tr.nd.sizeOf_spec]; omega
theorem trs_map : ∀ l : List HT, trs l = l.map HT.tr
  | [] => rfl
  | x :: l => by rw [trs, trs_map l]; rfl
theorem trs_length (l : List HT) : (trs l).length = l.length := by rw [trs_map, List.length_map]
theorem trs_append (a b : List HT) : trs (a ++ b) = trs a ++ trs b := by simp [trs_map]
abbrev nl : Value := .slice none 0 0
def HT.z : HT := .nd 0 nl [] nl []
def Tr.z : Tr := .nd 0 [] []
def HT.tg : HT → UInt8 | .nd t _ _ _ _ => t
def HT.bv : HT → Value | .nd _ v _ _ _ => v
def HT.bs : HT → List UInt8 | .nd _ _ bs _ _ => bs
def HT.lv : HT → Value | .nd _ _ _ v _ => v
def HT.kids : HT → List HT | .nd _ _ _ _ l => l
def HT.c : HT → List Value | .nd t bv _ lv _ => [.int .u8 (t.toNat : Int), bv, lv]
theorem HT.c_length (t : HT) : t.c.length = 3 := by cases t; rfl
instance lenC_ht {t : HT} : LenC t.c 3 := ⟨t.c_length⟩
abbrev hcs (l : List HT) : List Value := (l.map HT.c).flatten
theorem getD_memH {l : List HT} {i : Nat} (h : i < l.length) : l.getD i HT.z ∈ l := by
  rw [List.getD_eq_getElem?_getD, List.getElem?_eq_getElem h]; exact List.getElem_mem h
theorem take_succD {α : Type} (z : α) {l : List α} {i : Nat} (h : i < l.length) : l.take (i + 1) = l.take i ++ [l.getD i z] := by
  rw [List.take_add_one, List.getD_eq_getElem?_getD, List.getElem?_eq_getElem h]; rfl
theorem drop_consD {α : Type} (z : α) {l : List α} {i : Nat} (h : i < l.length) : l.drop i = l.getD i z :: l.drop (i + 1) := by
  rw [List.drop_eq_getElem_cons h, List.getD_eq_getElem?_getD, List.getElem?_eq_getElem h]; rfl
def HT.sv : HT → Prop | .nd _ bv bs lv l => SV bv bs.length ∧ SV lv l.length
theorem HT.sv.one {t : HT} (h : t.sv) : OneC t.c := by
  obtain ⟨tg, bv, bs, lv, l⟩ := t
  exact OneC.cons rfl (OneC.cons h.1.one (OneC.cons h.2.one oneC_nil))
instance oneC_hz : OneC HT.z.c := ⟨by intro u hu; simp only [HT.z, HT.c, List.mem_cons, List.not_mem_nil, or_false] at hu; rcases hu with rfl | rfl | rfl <;> rfl⟩
mutual
def HSeen (r : Rd) : HT → Prop
  | .nd _ bv bs lv l => Seen r bv bs.length 1 (v8s bs) ∧ Seen r lv l.length 3 (hcs l) ∧ HSeenL r l
def HSeenL (r : Rd) : List HT → Prop
  | [] => True
  | x :: l => HSeen r x ∧ HSeenL r l
end
theorem HSeenL_iff {r : Rd} : ∀ {l : List HT}, HSeenL r l ↔ ∀ x ∈ l, HSeen r x
  | [] => by simp [HSeenL]
  | x :: l => by simp [HSeenL, HSeenL_iff (l := l)]
theorem HSeen.mono {r r' : Rd} (hr : ∀ a v, r a = some v → r' a = some v) : ∀ {t : HT}, HSeen r t → HSeen r' t := by
  intro t
  induction t using HT.ind with
  | _ t bv bs lv l ih =>
    rintro ⟨h1, h2, h3⟩
    exact ⟨h1.mono hr, h2.mono hr, HSeenL_iff.2 fun x hx => ih x hx (HSeenL_iff.1 h3 x hx)⟩
theorem HSeen.sv {r : Rd} {t : HT} (h : HSeen r t) : t.sv := by
  obtain ⟨tg, bv, bs, lv, l⟩ := t
  exact ⟨h.1.sv, h.2.1.sv⟩
theorem HSeen.kid {r : Rd} {tg : UInt8} {bv lv : Value} {bs : List UInt8} {l : List HT} (h : HSeen r (.nd tg bv bs lv l)) {i : Nat} (hi : i < l.length) : HSeen r (l.getD i HT.z) := HSeenL_iff.1 h.2.2 _ (getD_memH hi)
def hseen (t : HT) : Fact := ⟨fun r => HSeen r t, fun _ _ hr h => h.mono hr⟩
theorem HSeen.old {w0 w : World} {M : List Ent} {S : List Fact} {t : HT} (hs : HSeen w0.cell? t) (h : Mem w0 [] M S w) : HSeen w.cell? t := hs.mono fun _ _ hc => h.cell_old hc
mutual
def HT.ents : HT → List Ent
  | .nd _ bv bs lv l => .row bv bs.length 5 1 (v8s bs) :: .row lv l.length 60 3 (hcs l) :: entsL l
def entsL : List HT → List Ent
  | [] => []
  | x :: l => x.ents ++ entsL l
end
theorem entsL_append (a b : List HT) : entsL (a ++ b) = entsL a ++ entsL b := by
  induction a with
  | nil => rfl
  | cons x a ih => simp [entsL, ih]
theorem mem_entsL {l : List HT} {x : HT} (hx : x ∈ l) {e : Ent} (he : e ∈ x.ents) : e ∈ entsL l := by
  induction l with
  | nil => cases hx
  | cons y l ih =>
    rw [entsL, List.mem_append]
    rcases List.mem_cons.1 hx with rfl | hx
    · exact .inl he
    · exact .inr (ih hx)
theorem Mem.hseenF {w0 w : World} {Ln : List Nat} {M : List Ent} {S : List Fact} (h : Mem w0 Ln M S w) {t : HT} (ht : Go.Proofs.YtgnablliekgbgaaGreatDoor.hseen t ∈ S) : HSeen w.cell? t := h.fact ht
def rowFact : Ent → Fact
  | .row v m _ sz xs => Go.PL.seen v m sz xs
  | _ => ⟨fun _ => True, fun _ _ _ _ => trivial⟩
def isRow : Ent → Prop
  | .row _ _ _ _ _ => True
  | _ => False
theorem ents_rows : ∀ (t : HT), ∀ e ∈ t.ents, isRow e := by
  intro t
  induction t using HT.ind with
  | _ t bv bs lv l ih =>
    intro e he
    rcases List.mem_cons.1 he with rfl | he
    · trivial
    · rcases List.mem_cons.1 he with rfl | he
      · trivial
      · have : ∀ m : List HT, (∀ x ∈ m, x ∈ l) → e ∈ entsL m → isRow e := by
          intro m
          induction m with
          | nil => intro _ h; cases h
          | cons y m ih2 =>
            intro hm h
            rw [entsL, List.mem_append] at h
            rcases h with h | h
            · exact ih y (hm y (List.mem_cons_self ..)) e h
            · exact ih2 (fun x hx => hm x (List.mem_cons_of_mem _ hx)) h
        exact this l (fun _ hx => hx) he
theorem Mem.freezeRows {w0 w : World} : ∀ (X : List Ent) {M : List Ent} {S : List Fact}, (∀ e ∈ X, isRow e) → Mem w0 [] (X ++ M) S w → Mem w0 [] M (X.map rowFact ++ S) w
  | [], M, S, _, h => h
  | e :: X, M, S, hr, h => by
    cases e with
    | row v m e sz xs =>
      have h1 := h.freezeRow (M' := X ++ M) .here
      have h2 := Mem.freezeRows X (fun e he => hr e (List.mem_cons_of_mem _ he)) h1
      refine h2.imp fun r hs t ht => hs t ?_
      rw [List.map_cons, List.cons_append] at ht
      rcases List.mem_cons.1 ht with rfl | ht
      · exact List.mem_append_right _ (List.mem_cons_self ..)
      · rcases List.mem_append.1 ht with ht | ht
        · exact List.mem_append_left _ ht
        · exact List.mem_append_right _ (List.mem_cons_of_mem _ ht)
    | blk b t cs => exact (hr _ (List.mem_cons_self ..)).elim
    | obj b o => exact (hr _ (List.mem_cons_self ..)).elim
theorem hseen_rows {r : Rd} : ∀ (t : HT), (∀ e ∈ t.ents, (rowFact e).f r) → HSeen r t := by
  intro t
  induction t using HT.ind with
  | _ t bv bs lv l ih =>
    intro h
    refine ⟨h _ (List.mem_cons_self ..), h _ (List.mem_cons_of_mem _ (List.mem_cons_self ..)), HSeenL_iff.2 fun x hx => ih x hx fun e he => h _ ?_⟩
    exact List.mem_cons_of_mem _ (List.mem_cons_of_mem _ (mem_entsL hx he))
theorem Mem.freezeT {w0 w : World} {M : List Ent} {S : List Fact} {t : HT} (h : Mem w0 [] (t.ents ++ M) S w) : Mem w0 [] M (Go.Proofs.YtgnablliekgbgaaGreatDoor.hseen t :: S) w := by
  refine (Mem.freezeRows t.ents (ents_rows t) h).imp fun r hs f hf => ?_
  rcases List.mem_cons.1 hf with rfl | hf
  · exact hseen_rows t fun e he => hs _ (List.mem_append_left _ (List.mem_map_of_mem he))
  · exact hs _ (List.mem_append_right _ hf)
theorem new_freeze {B : World} {w : World} {t : HT} (h : Mem B [] t.ents [] w) : New B.heap.size [] [Go.Proofs.YtgnablliekgbgaaGreatDoor.hseen t] w := (Mem.freezeT (t := t) (M := []) (by rw [List.append_nil]; exact h)).made .nil (Sub.refl _)
theorem Sub.appR {α : Type} {l M : List α} : ∀ (X : List α), Sub l M → Sub l (X ++ M)
  | [], h => h
  | _ :: X, h => .drop (Sub.appR X h)
instance (priority := 1600) subC_refl {α : Type} {l : List α} : SubC l l := ⟨Sub.refl l⟩
instance (priority := 500) subC_appR {α : Type} {l M X : List α} [s : SubC l M] : SubC l (X ++ M) := ⟨Sub.appR X s.h⟩
section
variable {P : Program} {n : Cx} {L : Slots} {Q : Exit → Act → World → Prop} {w0 : World} {Ln : List Nat} {M : List Ent} {S : List Fact}
theorem t_callE {k : FuncId} {args : Array Operand} {at_ : Array TypeId} {vs : List Value} {ι : Type} {p : ι → Prop} {V : ι → Value} {N : ι → List Ent} (Z : ι → List Ent) (hZ : ∀ x, (N x ++ M).Perm (Z x)) (hb : HasBody P k) (hv : evs L args.toList = some vs)
    (hc : ∀ w, Mem w0 Ln M S w → Calls P k vs.toArray w (GivesP w p V N (fun _ => []))) : TOpP P Q n (Mem w0 Ln M S) L (.call { callee := .value (.func k), args := args, argTypes := at_ }) ι p V (fun x => Mem w0 Ln (Z x) S) :=
  (t_callP hb hv hc).t.rep fun x w h => ⟨x.1, x.2, rfl, h.perm (hZ x.1)⟩
theorem t_callPT {k : FuncId} {args : Array Operand} {at_ : Array TypeId} {vs : List Value} {ι : Type} {p : ι → Prop} {V : ι → Value} {T : ι → Fact} (hb : HasBody P k) (hv : evs L args.toList = some vs)
    (hc : ∀ w, Mem w0 Ln M S w → Calls P k vs.toArray w (GivesP w p V (fun _ => []) (fun x => [T x]))) : TOpP P Q n (Mem w0 Ln M S) L (.call { callee := .value (.func k), args := args, argTypes := at_ }) ι p V (fun x => Mem w0 Ln M (T x :: S)) := t_callP hb hv hc
end
end Go.Proofs.YtgnablliekgbgaaGreatDoor
namespace Go.Proofs.YtgnablliekgbgaaGreatDoor
open Go Go.PL Go.RowKit
def lenF (n : Nat) : Nat := if n = 0 then 0 else n.log2 + 1
theorem lenF_step {n : Nat} (h : n ≠ 0) : lenF n = lenF (n / 2) + 1 := by
  unfold lenF
  rw [if_neg h, Nat.log2_def]
  by_cases h2 : 2 ≤ n
  · rw [if_pos h2, if_neg zz16]
  · rw [if_neg h2, if_pos zz16]
theorem lenF_shift : ∀ (s n : Nat), 2 ^ s ≤ n → lenF n = s + lenF (n / 2 ^ s)
  | 0, n, _ => by simp
  | s + 1, n, h => by
    have h1 : 2 ^ s ≤ n / 2 := by rw [Nat.pow_succ] at h; omega
    have := Nat.two_pow_pos s
    rw [lenF_step zz16, lenF_shift s (n / 2) h1, Nat.div_div_eq_div_mul, Nat.pow_succ, Nat.mul_comm 2]; omega
theorem lenF_le : ∀ {m n : Nat}, n < 2 ^ m → lenF n ≤ m
  | 0, n, h => by
    obtain rfl : n = 0 := by simpa using h
    exact Nat.le_refl _
  | m + 1, n, h => by
    by_cases h0 : n = 0
    · subst h0; exact Nat.zero_le _
    · rw [lenF_step h0]
      have := lenF_le (m := m) (n := n / 2) (by rw [Nat.pow_succ] at h; omega)
      omega
theorem lenF_lt : ∀ {m n : Nat}, lenF n ≤ m → n < 2 ^ m
  | 0, n, h => by
    by_cases h0 : n = 0
    · subst h0; decide
    · rw [lenF_step h0] at h; omega
  | m + 1, n, h => by
    by_cases h0 : n = 0
    · subst h0; exact Nat.two_pow_pos _
    · rw [lenF_step h0] at h
      have := lenF_lt (m := m) (n := n / 2) zz16
      rw [Nat.pow_succ]; omega
def tab8 : List UInt8 := (List.range 256).map fun i => UInt8.ofNat (lenF i)
theorem tab8_length : tab8.length = 256 := by rw [tab8, List.length_map, List.length_range]
theorem tab8_get {b : Nat} (h : b < 256) : (tab8.getD b 0).toNat = lenF b := by
  rw [tab8, List.getD_eq_getElem?_getD, List.getElem?_map, List.getElem?_range h]
  show (UInt8.ofNat (lenF b)).toNat = _
  rw [UInt8.toNat_ofNat']
  exact Nat.mod_eq_of_lt (by have := lenF_le (m := 8) (n := b) h; omega)
theorem sr64_nat (x : UInt64) (k : Nat) (hk : k ≤ 64) : (sr64 x k).toNat = x.toNat / 2 ^ k := by
  show (UInt64.ofNat (x.toNat / 2 ^ min k 64)).toNat = _
  rw [Nat.min_eq_left hk, UInt64.toNat_ofNat']
  exact Nat.mod_eq_of_lt (Nat.lt_of_le_of_lt (Nat.div_le_self _ _) x.toNat_lt)
theorem len_fin {x y : UInt64} (s : Nat) (hy : y.toNat = x.toNat / 2 ^ s) (h1 : y.toNat < 256) (h2 : s = 0 ∨ 2 ^ s ≤ x.toNat) : s + (tab8.getD (of8 (y.toNat : Int)).toNat 0).toNat = lenF x.toNat := by
  have e : (of8 (y.toNat : Int)).toNat = y.toNat := by have := of8_toNat (y.toNat : Int); omega
  rw [e, tab8_get h1, hy]
  rcases h2 with rfl | h2
  · simp
  · exact (lenF_shift s _ h2).symm
def wideF (n : Nat) : Nat := if n < 128 then 1 else 1 + (lenF n + 7) / 8
theorem wideF_eq {n : Nat} (h : n < 16777216) : wideF n = if n < 128 then 1 else if n < 256 then 2 else if n < 65536 then 3 else 4 := by
  unfold wideF
  split
  · rfl
  · split
    · have h1 := lenF_le (m := 8) (n := n) zz16
      have h2 : ¬ lenF n ≤ 0 := fun hh => by have := lenF_lt hh; omega
      omega
    · split
      · have h1 := lenF_le (m := 16) (n := n) zz16
        have h2 : ¬ lenF n ≤ 8 := fun hh => by have := lenF_lt hh; omega
        omega
      · have h1 := lenF_le (m := 24) (n := n) zz16
        have h2 : ¬ lenF n ≤ 16 := fun hh => by have := lenF_lt hh; omega
        omega
theorem wideF_le (n : Nat) (h : n < 16777216) : wideF n ≤ 4 := by
  rw [wideF_eq h]; split
  · decide
  · split
    · decide
    · split <;> decide
def lenB (n : Nat) : List UInt8 := if n < 128 then [of8 (n : Int)] else if n < 256 then [129, of8 (n : Int)] else if n < 65536 then [130, of8 ((n / 256 : Nat) : Int), of8 ((n % 256 : Nat) : Int)] else [131, of8 ((n / 65536 : Nat) : Int), of8 ((n / 256 % 256 : Nat) : Int), of8 ((n % 256 : Nat) : Int)]
theorem lenB_length {n : Nat} (h : n < 16777216) : (lenB n).length = wideF n := by
  rw [wideF_eq h]; unfold lenB
  split
  · rfl
  · split
    · rfl
    · split <;> rfl
theorem len64 (x : UInt64) (w : World)   :
    Calls Tryz.prog 84 [.int .u64 x.toNat].toArray w (Pur w (.int .i64 ((lenF x.toNat : Nat) : Int))) := by
  have hx := x.toNat_lt
  refine enter (m := 25) (R := Mem w [] [] []) Tryz.func84 rfl rfl (Nat.le_of_ble_eq_true rfl) (Mem.start w) ?_
  refine wpc_seq <| wpc_region <| wpl_q (q_pure rfl) rfl <| wpl_nil <| ex_then <| wpc_seq <| wpc_seq <| wpc_region <| wpl_q (q_pure rfl) rfl <| wpl_q (q_pure rfl) rfl <| wpl_nil <| ex_then ?_
  refine wpc_cond rfl (fun hc4 => ?_) (fun hc4 => ?_)
  ·
   try simp only [decide_eq_true_eq, decide_eq_false_iff_not, ge_iff_le] at hc4
   refine wpc_seq <| wpc_region <| wpl_q (q_pure rfl) rfl ?_
   refine wpl_q (q64_shr rfl rfl zz26 32 rfl) rfl ?_
   refine wpl_q (q_pure rfl) rfl <| wpl_nil <| ex_then <| wpc_region <| wpl_q (q_pure rfl) rfl <| wpl_nil <| ex_then <| wpc_seq <| wpc_seq <| wpc_region <| wpl_q (q_pure rfl) rfl <| wpl_q (q_pure rfl) rfl ?_
   refine wpl_nil <| ex_then ?_
   refine wpc_cond rfl (fun hc8 => ?_) (fun hc8 => ?_)
   ·
    try simp only [decide_eq_true_eq, decide_eq_false_iff_not, ge_iff_le] at hc8
    refine wpc_seq <| wpc_region <| wpl_q (q_pure rfl) rfl ?_
    refine wpl_q (q64_shr rfl rfl zz26 16 rfl) rfl ?_
    refine wpl_q (q_pure rfl) rfl <| wpl_nil <| ex_then <| wpc_region <| wpl_q (q_pure rfl) rfl ?_
    refine wpl_q (q_addN (b := 16) rfl rfl zz1) rfl ?_
    refine wpl_q (q_pure rfl) rfl <| wpl_nil <| ex_then <| wpc_seq <| wpc_seq <| wpc_region <| wpl_q (q_pure rfl) rfl <| wpl_q (q_pure rfl) rfl <| wpl_nil <| ex_then ?_
    refine wpc_cond rfl (fun hc14 => ?_) (fun hc14 => ?_)
    ·
     try simp only [decide_eq_true_eq, decide_eq_false_iff_not, ge_iff_le] at hc14
     refine wpc_seq <| wpc_region <| wpl_q (q_pure rfl) rfl ?_
     refine wpl_q (q64_shr rfl rfl zz26 8 rfl) rfl ?_
     refine wpl_q (q_pure rfl) rfl <| wpl_nil <| ex_then <| wpc_region <| wpl_q (q_pure rfl) rfl ?_
     refine wpl_q (q_addN (b := 8) rfl rfl zz1) rfl ?_
     refine wpl_q (q_pure rfl) rfl <| wpl_nil <| ex_then <| wpc_seq <| wpc_region <| wpl_q (q_pure rfl) rfl <| wpl_q (q_pure rfl) rfl <| wpl_q (q8_conv Tryz.underlying22 Tryz.underlying5 rfl) rfl ?_
     refine wpl_q (q_strIdx (xs := tab8) Tryz.underlying9 zz8 rfl zz45) rfl ?_
     refine wpl_q (q8_int Tryz.underlying5 Tryz.underlying3 rfl) rfl ?_
     refine wpl_q (q_addN rfl rfl (Nat.le_trans (Nat.add_le_add_left (Nat.le_of_lt (UInt8.toNat_lt _)) _) zz22)) rfl ?_
     refine wpl_q (q_pure rfl) rfl <| wpl_nil <| ex_then <| wpc_ret ?_
     refine ret1 (.inl rfl) rfl rfl ?_
     exact fun w h => ⟨by
       have e0 := sr64_nat x 32 zz22
       have e1 := sr64_nat (sr64 x 32) 16 zz22
       have e2 := sr64_nat (sr64 (sr64 x 32) 16) 8 zz22
       have := len_fin (x := x) (y := (sr64 (sr64 (sr64 x 32) 16) 8)) 56 (by rw [e2, e1, e0]; first | done | omega) zz16 zz16
       rw [← this], h.below⟩
    ·
     try simp only [decide_eq_true_eq, decide_eq_false_iff_not, ge_iff_le] at hc14
     refine wpc_skip <| ex_then <| wpc_seq <| wpc_region <| wpl_q (q_pure rfl) rfl <| wpl_q (q_pure rfl) rfl <| wpl_q (q8_conv Tryz.underlying22 Tryz.underlying5 rfl) rfl ?_
     refine wpl_q (q_strIdx (xs := tab8) Tryz.underlying9 zz8 rfl zz45) rfl ?_
     refine wpl_q (q8_int Tryz.underlying5 Tryz.underlying3 rfl) rfl ?_
     refine wpl_q (q_addN rfl rfl (Nat.le_trans (Nat.add_le_add_left (Nat.le_of_lt (UInt8.toNat_lt _)) _) zz22)) rfl ?_
     refine wpl_q (q_pure rfl) rfl <| wpl_nil <| ex_then <| wpc_ret ?_
     refine ret1 (.inl rfl) rfl rfl ?_
     exact fun w h => ⟨by
       have e0 := sr64_nat x 32 zz22
       have e1 := sr64_nat (sr64 x 32) 16 zz22
       have := len_fin (x := x) (y := (sr64 (sr64 x 32) 16)) 48 (by rw [e1, e0]; first | done | omega) zz16 zz16
       rw [← this], h.below⟩
   ·
    try simp only [decide_eq_true_eq, decide_eq_false_iff_not, ge_iff_le] at hc8
    refine wpc_skip <| ex_then <| wpc_seq <| wpc_seq <| wpc_region <| wpl_q (q_pure rfl) rfl <| wpl_q (q_pure rfl) rfl <| wpl_nil <| ex_then ?_
    refine wpc_cond rfl (fun hc14 => ?_) (fun hc14 => ?_)
    ·
     try simp only [decide_eq_true_eq, decide_eq_false_iff_not, ge_iff_le] at hc14
     refine wpc_seq <| wpc_region <| wpl_q (q_pure rfl) rfl ?_
     refine wpl_q (q64_shr rfl rfl zz26 8 rfl) rfl ?_
     refine wpl_q (q_pure rfl) rfl <| wpl_nil <| ex_then <| wpc_region <| wpl_q (q_pure rfl) rfl ?_
     refine wpl_q (q_addN (b := 8) rfl rfl zz1) rfl ?_
     refine wpl_q (q_pure rfl) rfl <| wpl_nil <| ex_then <| wpc_seq <| wpc_region <| wpl_q (q_pure rfl) rfl <| wpl_q (q_pure rfl) rfl <| wpl_q (q8_conv Tryz.underlying22 Tryz.underlying5 rfl) rfl ?_
     refine wpl_q (q_strIdx (xs := tab8) Tryz.underlying9 zz8 rfl zz45) rfl ?_
     refine wpl_q (q8_int Tryz.underlying5 Tryz.underlying3 rfl) rfl ?_
     refine wpl_q (q_addN rfl rfl (Nat.le_trans (Nat.add_le_add_left (Nat.le_of_lt (UInt8.toNat_lt _)) _) zz22)) rfl ?_
     refine wpl_q (q_pure rfl) rfl <| wpl_nil <| ex_then <| wpc_ret ?_
     refine ret1 (.inl rfl) rfl rfl ?_
     exact fun w h => ⟨by
       have e0 := sr64_nat x 32 zz22
       have e1 := sr64_nat (sr64 x 32) 8 zz22
       have := len_fin (x := x) (y := (sr64 (sr64 x 32) 8)) 40 (by rw [e1, e0]; first | done | omega) zz16 zz16
       rw [← this], h.below⟩
    ·
     try simp only [decide_eq_true_eq, decide_eq_false_iff_not, ge_iff_le] at hc14
     refine wpc_skip <| ex_then <| wpc_seq <| wpc_region <| wpl_q (q_pure rfl) rfl <| wpl_q (q_pure rfl) rfl <| wpl_q (q8_conv Tryz.underlying22 Tryz.underlying5 rfl) rfl ?_
     refine wpl_q (q_strIdx (xs := tab8) Tryz.underlying9 zz8 rfl zz45) rfl ?_
     refine wpl_q (q8_int Tryz.underlying5 Tryz.underlying3 rfl) rfl ?_
     refine wpl_q (q_addN rfl rfl (Nat.le_trans (Nat.add_le_add_left (Nat.le_of_lt (UInt8.toNat_lt _)) _) zz22)) rfl ?_
     refine wpl_q (q_pure rfl) rfl <| wpl_nil <| ex_then <| wpc_ret ?_
     refine ret1 (.inl rfl) rfl rfl ?_
     exact fun w h => ⟨by
       have e0 := sr64_nat x 32 zz22
       have := len_fin (x := x) (y := (sr64 x 32)) 32 (by rw [e0]; first | done | omega) zz16 zz16
       rw [← this], h.below⟩
  ·
   try simp only [decide_eq_true_eq, decide_eq_false_iff_not, ge_iff_le] at hc4
   refine wpc_skip <| ex_then <| wpc_seq <| wpc_seq <| wpc_region <| wpl_q (q_pure rfl) rfl <| wpl_q (q_pure rfl) rfl <| wpl_nil <| ex_then ?_
   refine wpc_cond rfl (fun hc8 => ?_) (fun hc8 => ?_)
   ·
    try simp only [decide_eq_true_eq, decide_eq_false_iff_not, ge_iff_le] at hc8
    refine wpc_seq <| wpc_region <| wpl_q (q_pure rfl) rfl ?_
    refine wpl_q (q64_shr rfl rfl zz26 16 rfl) rfl ?_
    refine wpl_q (q_pure rfl) rfl <| wpl_nil <| ex_then <| wpc_region <| wpl_q (q_pure rfl) rfl ?_
    refine wpl_q (q_addN (b := 16) rfl rfl zz1) rfl ?_
    refine wpl_q (q_pure rfl) rfl <| wpl_nil <| ex_then <| wpc_seq <| wpc_seq <| wpc_region <| wpl_q (q_pure rfl) rfl <| wpl_q (q_pure rfl) rfl <| wpl_nil <| ex_then ?_
    refine wpc_cond rfl (fun hc14 => ?_) (fun hc14 => ?_)
    ·
     try simp only [decide_eq_true_eq, decide_eq_false_iff_not, ge_iff_le] at hc14
     refine wpc_seq <| wpc_region <| wpl_q (q_pure rfl) rfl ?_
     refine wpl_q (q64_shr rfl rfl zz26 8 rfl) rfl ?_
     refine wpl_q (q_pure rfl) rfl <| wpl_nil <| ex_then <| wpc_region <| wpl_q (q_pure rfl) rfl ?_
     refine wpl_q (q_addN (b := 8) rfl rfl zz1) rfl ?_
     refine wpl_q (q_pure rfl) rfl <| wpl_nil <| ex_then <| wpc_seq <| wpc_region <| wpl_q (q_pure rfl) rfl <| wpl_q (q_pure rfl) rfl <| wpl_q (q8_conv Tryz.underlying22 Tryz.underlying5 rfl) rfl ?_
     refine wpl_q (q_strIdx (xs := tab8) Tryz.underlying9 zz8 rfl zz45) rfl ?_
     refine wpl_q (q8_int Tryz.underlying5 Tryz.underlying3 rfl) rfl ?_
     refine wpl_q (q_addN rfl rfl (Nat.le_trans (Nat.add_le_add_left (Nat.le_of_lt (UInt8.toNat_lt _)) _) zz22)) rfl ?_
     refine wpl_q (q_pure rfl) rfl <| wpl_nil <| ex_then <| wpc_ret ?_
     refine ret1 (.inl rfl) rfl rfl ?_
     exact fun w h => ⟨by
       have e0 := sr64_nat x 16 zz22
       have e1 := sr64_nat (sr64 x 16) 8 zz22
       have := len_fin (x := x) (y := (sr64 (sr64 x 16) 8)) 24 (by rw [e1, e0]; first | done | omega) zz16 zz16
       rw [← this], h.below⟩
    ·
     try simp only [decide_eq_true_eq, decide_eq_false_iff_not, ge_iff_le] at hc14
     refine wpc_skip <| ex_then <| wpc_seq <| wpc_region <| wpl_q (q_pure rfl) rfl <| wpl_q (q_pure rfl) rfl <| wpl_q (q8_conv Tryz.underlying22 Tryz.underlying5 rfl) rfl ?_
     refine wpl_q (q_strIdx (xs := tab8) Tryz.underlying9 zz8 rfl zz45) rfl ?_
     refine wpl_q (q8_int Tryz.underlying5 Tryz.underlying3 rfl) rfl ?_
     refine wpl_q (q_addN rfl rfl (Nat.le_trans (Nat.add_le_add_left (Nat.le_of_lt (UInt8.toNat_lt _)) _) zz22)) rfl ?_
     refine wpl_q (q_pure rfl) rfl <| wpl_nil <| ex_then <| wpc_ret ?_
     refine ret1 (.inl rfl) rfl rfl ?_
     exact fun w h => ⟨by
       have e0 := sr64_nat x 16 zz22
       have := len_fin (x := x) (y := (sr64 x 16)) 16 (by rw [e0]; first | done | omega) zz16 zz16
       rw [← this], h.below⟩
   ·
    try simp only [decide_eq_true_eq, decide_eq_false_iff_not, ge_iff_le] at hc8
    refine wpc_skip <| ex_then <| wpc_seq <| wpc_seq <| wpc_region <| wpl_q (q_pure rfl) rfl <| wpl_q (q_pure rfl) rfl <| wpl_nil <| ex_then ?_
    refine wpc_cond rfl (fun hc14 => ?_) (fun hc14 => ?_)
    ·
     try simp only [decide_eq_true_eq, decide_eq_false_iff_not, ge_iff_le] at hc14
     refine wpc_seq <| wpc_region <| wpl_q (q_pure rfl) rfl ?_
     refine wpl_q (q64_shr rfl rfl zz26 8 rfl) rfl ?_
     refine wpl_q (q_pure rfl) rfl <| wpl_nil <| ex_then <| wpc_region <| wpl_q (q_pure rfl) rfl ?_
     refine wpl_q (q_addN (b := 8) rfl rfl zz1) rfl ?_
     refine wpl_q (q_pure rfl) rfl <| wpl_nil <| ex_then <| wpc_seq <| wpc_region <| wpl_q (q_pure rfl) rfl <| wpl_q (q_pure rfl) rfl <| wpl_q (q8_conv Tryz.underlying22 Tryz.underlying5 rfl) rfl ?_
     refine wpl_q (q_strIdx (xs := tab8) Tryz.underlying9 zz8 rfl zz45) rfl ?_
     refine wpl_q (q8_int Tryz.underlying5 Tryz.underlying3 rfl) rfl ?_
     refine wpl_q (q_addN rfl rfl (Nat.le_trans (Nat.add_le_add_left (Nat.le_of_lt (UInt8.toNat_lt _)) _) zz22)) rfl ?_
     refine wpl_q (q_pure rfl) rfl <| wpl_nil <| ex_then <| wpc_ret ?_
     refine ret1 (.inl rfl) rfl rfl ?_
     exact fun w h => ⟨by
       have e0 := sr64_nat x 8 zz22
       have := len_fin (x := x) (y := (sr64 x 8)) 8 (by rw [e0]; first | done | omega) zz16 zz16
       rw [← this], h.below⟩
    ·
     try simp only [decide_eq_true_eq, decide_eq_false_iff_not, ge_iff_le] at hc14
     refine wpc_skip <| ex_then <| wpc_seq <| wpc_region <| wpl_q (q_pure rfl) rfl <| wpl_q (q_pure rfl) rfl <| wpl_q (q8_conv Tryz.underlying22 Tryz.underlying5 rfl) rfl ?_
     refine wpl_q (q_strIdx (xs := tab8) Tryz.underlying9 zz8 rfl zz45) rfl ?_
     refine wpl_q (q8_int Tryz.underlying5 Tryz.underlying3 rfl) rfl ?_
     refine wpl_q (q_addN rfl rfl (Nat.le_trans (Nat.add_le_add_left (Nat.le_of_lt (UInt8.toNat_lt _)) _) zz22)) rfl ?_
     refine wpl_q (q_pure rfl) rfl <| wpl_nil <| ex_then <| wpc_ret ?_
     refine ret1 (.inl rfl) rfl rfl ?_
     exact fun w h => ⟨by
       skip
       have := len_fin (x := x) (y := x) 0 zz47 zz16 zz16
       rw [← this], h.below⟩
theorem len_ (x : UInt64) (w : World)   :
    Calls Tryz.prog 97 [.int .u64 x.toNat].toArray w (Pur w (.int .i64 ((lenF x.toNat : Nat) : Int))) := by
  refine enter (m := 8) (R := Mem w [] [] []) Tryz.func97 rfl rfl (Nat.le_of_ble_eq_true rfl) (Mem.start w) ?_
  refine wpc_seq <| wpc_region <| wpl_q (q_pure rfl) rfl <| wpl_nil <| ex_then <| wpc_seq ?_
  refine wpc_cond_f rfl ?_
  refine wpc_skip <| ex_then <| wpc_seq <| wpc_region <| wpl_q (q_pure rfl) rfl ?_
  refine wpl_t (t_pur Tryz.hb84 rfl fun w h => len64 x w) rfl (fun b7 => ?_)
  refine wpl_q (q_pure rfl) rfl <| wpl_nil <| ex_then <| wpc_ret ?_
  refine ret1 (.inl rfl) rfl rfl ?_
  exact fun w h => ⟨rfl, h.below⟩
theorem wide (n : Nat) (w : World)  (hn : n < 16777216) :
    Calls Tryz.prog 82 [.int .i64 ((n : Nat) : Int)].toArray w (Pur w (.int .i64 ((wideF n : Nat) : Int))) := by
  refine enter (m := 11) (R := Mem w [] [] []) Tryz.func82 rfl rfl (Nat.le_of_ble_eq_true rfl) (Mem.start w) ?_
  refine wpc_seq <| wpc_region <| wpl_q (q_pure rfl) rfl <| wpl_nil <| ex_then <| wpc_seq <| wpc_seq <| wpc_region <| wpl_q (q_pure rfl) rfl <| wpl_q (q_pure rfl) rfl <| wpl_nil <| ex_then ?_
  refine wpc_cond rfl (fun hc4 => ?_) (fun hc4 => ?_)
  ·
   simp only [decide_eq_true_eq] at hc4
   refine wpc_seq <| wpc_region <| wpl_q (q_pure rfl) rfl <| wpl_nil <| ex_then <| wpc_ret ?_
   refine ex_then_ret ?_
   refine ret1 (.inl rfl) rfl rfl ?_
   exact fun w h => ⟨by rw [wideF, if_pos zz16]; rfl, h.below⟩
  ·
   simp only [decide_eq_false_iff_not] at hc4
   refine wpc_skip <| ex_then <| wpc_seq <| wpc_region <| wpl_q (q_pure rfl) rfl <| wpl_q (q64_conv Tryz.underlying3 Tryz.underlying119 rfl) rfl ?_
   refine wpl_t (t_pur (v := .int .i64 ((lenF n : Nat) : Int)) Tryz.hb97 rfl fun w h => by have q := len_ (of64 ((n : Nat) : Int)) w; rw [of64_nat n zz16] at q; rw [of64_nat n zz16]; exact q) rfl (fun b7 => ?_)
   have hle := lenF_le (m := 24) (n := n) zz16
   refine wpl_q (q_addN (b := 7) rfl rfl zz1) rfl ?_
   refine wpl_q (q_quoN (b := 8) rfl rfl zz26 zz1) rfl ?_
   refine wpl_q (q_addN (a := 1) rfl rfl zz1) rfl ?_
   refine wpl_q (q_pure rfl) rfl <| wpl_nil <| ex_then <| wpc_ret ?_
   refine ret1 (.inl rfl) rfl rfl ?_
   exact fun w h => ⟨by rw [wideF, if_neg zz16], h.below⟩
theorem refLength (n : Nat) (w : World)  (hn : n < 16777216) :
    Calls Tryz.prog 41 [.int .i64 ((n : Nat) : Int)].toArray w (GivesP w (fun v : Value => SV v (lenB n).length) (fun v => v) (fun v => [.row v (lenB n).length 5 1 (v8s (lenB n))]) (fun _ => [])) := by
  refine enter (m := 33) (R := Mem w [] [] []) Tryz.func41 rfl rfl (Nat.le_of_ble_eq_true rfl) (Mem.start w) ?_
  refine wpc_seq <| wpc_region <| wpl_q (q_pure rfl) rfl <| wpl_nil <| ex_then <| wpc_seq <| wpc_seq <| wpc_region <| wpl_q (q_pure rfl) rfl <| wpl_q (q_pure rfl) rfl <| wpl_nil <| ex_then ?_
  refine wpc_cond rfl (fun hc4 => ?_) (fun hc4 => ?_)
  ·
   simp only [decide_eq_true_eq] at hc4
   refine wpc_seq <| wpc_region <| wpl_q (q_pure rfl) rfl <| wpl_q (q8_conv Tryz.underlying3 Tryz.underlying5 rfl) rfl ?_
   refine wpl_tp (t_bsV (v8s [_]) Tryz.underlying49 Tryz.ti5 rfl rfl zz22 zz22 rfl (v8s_one _)) rfl (fun b7 p7 => ?_)
   refine wpl_q (q_pure rfl) rfl <| wpl_nil <| ex_then <| wpc_ret ?_
   refine ex_then_ret ?_
   refine ret1 (.inl rfl) rfl rfl ?_
   exact fun w h => ⟨b7, by rw [lenB, if_pos zz16]; exact p7, rfl, h.below, by rw [lenB, if_pos zz16]; exact h.made SubC.h .nil⟩
  ·
   simp only [decide_eq_false_iff_not] at hc4
   refine wpc_skip <| ex_then <| wpc_seq <| wpc_seq <| wpc_region <| wpl_q (q_pure rfl) rfl <| wpl_q (q_pure rfl) rfl <| wpl_nil <| ex_then ?_
   refine wpc_cond rfl (fun hc9 => ?_) (fun hc9 => ?_)
   ·
    simp only [decide_eq_true_eq] at hc9
    refine wpc_seq <| wpc_region <| wpl_q (q_pure rfl) rfl <| wpl_q (q8_conv Tryz.underlying3 Tryz.underlying5 rfl) rfl ?_
    refine wpl_tp (t_bsV (v8s [(129 : UInt8), _]) Tryz.underlying49 Tryz.ti5 rfl rfl zz22 zz22 rfl (v8s_one _)) rfl (fun b12 p12 => ?_)
    refine wpl_q (q_pure rfl) rfl <| wpl_nil <| ex_then <| wpc_ret ?_
    refine ex_then_ret ?_
    refine ret1 (.inl rfl) rfl rfl ?_
    exact fun w h => ⟨b12, by rw [lenB, if_neg zz16, if_pos zz16]; exact p12, rfl, h.below, by rw [lenB, if_neg zz16, if_pos zz16]; exact h.made SubC.h .nil⟩
   ·
    simp only [decide_eq_false_iff_not] at hc9
    refine wpc_skip <| ex_then <| wpc_seq <| wpc_seq <| wpc_region <| wpl_q (q_pure rfl) rfl <| wpl_q (q_pure rfl) rfl <| wpl_nil <| ex_then ?_
    refine wpc_cond rfl (fun hc14 => ?_) (fun hc14 => ?_)
    ·
     simp only [decide_eq_true_eq] at hc14
     refine wpc_seq <| wpc_region <| wpl_q (q_pure rfl) rfl ?_
     refine wpl_q (q_quoN (b := 256) rfl rfl zz26 zz1) rfl ?_
     refine wpl_q (q8_conv Tryz.underlying3 Tryz.underlying5 rfl) rfl <| wpl_q (q_pure rfl) rfl ?_
     refine wpl_q (q_remN (b := 256) rfl rfl zz26) rfl ?_
     refine wpl_q (q8_conv Tryz.underlying3 Tryz.underlying5 rfl) rfl ?_
     refine wpl_tp (t_bsV (v8s [(130 : UInt8), _, _]) Tryz.underlying49 Tryz.ti5 rfl rfl zz22 zz22 rfl (v8s_one _)) rfl (fun b21 p21 => ?_)
     refine wpl_q (q_pure rfl) rfl <| wpl_nil <| ex_then <| wpc_ret ?_
     refine ex_then_ret ?_
     refine ret1 (.inl rfl) rfl rfl ?_
     exact fun w h => ⟨b21, by rw [lenB, if_neg zz16, if_neg zz16, if_pos zz16]; exact p21, rfl, h.below, by rw [lenB, if_neg zz16, if_neg zz16, if_pos zz16]; exact h.made SubC.h .nil⟩
    ·
     simp only [decide_eq_false_iff_not] at hc14
     refine wpc_skip <| ex_then <| wpc_seq <| wpc_region <| wpl_q (q_pure rfl) rfl ?_
     refine wpl_q (q_quoN (b := 65536) rfl rfl zz26 zz1) rfl ?_
     refine wpl_q (q8_conv Tryz.underlying3 Tryz.underlying5 rfl) rfl <| wpl_q (q_pure rfl) rfl ?_
     refine wpl_q (q_quoN (b := 256) rfl rfl zz26 zz1) rfl ?_
     refine wpl_q (q_remN (b := 256) rfl rfl zz26) rfl ?_
     refine wpl_q (q8_conv Tryz.underlying3 Tryz.underlying5 rfl) rfl <| wpl_q (q_pure rfl) rfl ?_
     refine wpl_q (q_remN (b := 256) rfl rfl zz26) rfl ?_
     refine wpl_q (q8_conv Tryz.underlying3 Tryz.underlying5 rfl) rfl ?_
     refine wpl_tp (t_bsV (v8s [(131 : UInt8), _, _, _]) Tryz.underlying49 Tryz.ti5 rfl rfl zz22 zz22 rfl (v8s_one _)) rfl (fun b32 p32 => ?_)
     refine wpl_q (q_pure rfl) rfl <| wpl_nil <| ex_then <| wpc_ret ?_
     refine ret1 (.inl rfl) rfl rfl ?_
     exact fun w h => ⟨b32, by rw [lenB, if_neg zz16, if_neg zz16, if_neg zz16]; exact p32, rfl, h.below, by rw [lenB, if_neg zz16, if_neg zz16, if_neg zz16]; exact h.made SubC.h .nil⟩
end Go.Proofs.YtgnablliekgbgaaGreatDoor
namespace Go.Proofs.YtgnablliekgbgaaGreatDoor
open Go Go.PL Go.RowKit
mutual
def Tr.cnt : Tr → Nat
  | .nd _ _ l => 1 + cntL l
def cntL : List Tr → Nat
  | [] => 0
  | x :: l => x.cnt + cntL l
end
mutual
def Tr.dep : Tr → Nat
  | .nd _ _ l => depL l + 1
def depL : List Tr → Nat
  | [] => 0
  | x :: l => max x.dep (depL l)
end
mutual
def Tr.byt : Tr → Nat
  | .nd _ bs l => bs.length + bytL l
def bytL : List Tr → Nat
  | [] => 0
  | x :: l => x.byt + bytL l
end
mutual
def Tr.siz : Tr → Nat
  | .nd _ bs l => 1 + wideF (bs.length + sizL l) + (bs.length + sizL l)
def sizL : List Tr → Nat
  | [] => 0
  | x :: l => x.siz + sizL l
end
def badT (t : UInt8) (b n : Nat) : Bool := decide (t = 0) || (decide (t < 128) && decide (0 < n)) || (decide (128 ≤ t) && decide (0 < b))
mutual
def Tr.shp : Tr → Bool
  | .nd t bs l => !badT t bs.length l.length && shpL l
def shpL : List Tr → Bool
  | [] => true
  | x :: l => x.shp && shpL l
end
theorem cntL_app : ∀ (a b : List Tr), cntL (a ++ b) = cntL a + cntL b
  | [], b => by simp [cntL]
  | x :: a, b => by rw [List.cons_append, cntL, cntL, cntL_app a b]; omega
theorem bytL_app : ∀ (a b : List Tr), bytL (a ++ b) = bytL a + bytL b
  | [], b => by simp [bytL]
  | x :: a, b => by rw [List.cons_append, bytL, bytL, bytL_app a b]; omega
theorem sizL_app : ∀ (a b : List Tr), sizL (a ++ b) = sizL a + sizL b
  | [], b => by simp [sizL]
  | x :: a, b => by rw [List.cons_append, sizL, sizL, sizL_app a b]; omega
theorem depL_app : ∀ (a b : List Tr), depL (a ++ b) = max (depL a) (depL b)
  | [], b => by simp [depL]
  | x :: a, b => by rw [List.cons_append, depL, depL, depL_app a b]; omega
section
variable {l : List HT} {i : Nat} (h : i < l.length)
include h
theorem trs_takeS : trs (l.take (i + 1)) = trs (l.take i) ++ [(l.getD i HT.z).tr] := by rw [take_succD HT.z h, trs_append]; rfl
theorem trs_split : trs l = trs (l.take i) ++ (l.getD i HT.z).tr :: trs (l.drop (i + 1)) := by
  conv => lhs; rw [← List.take_append_drop i l, drop_consD HT.z h, trs_append]
  rfl
theorem sizL_take : sizL (trs (l.take (i + 1))) = sizL (trs (l.take i)) + (l.getD i HT.z).tr.siz := by rw [trs_takeS h, sizL_app]; rfl
theorem cntL_kid : cntL (trs (l.take i)) + (l.getD i HT.z).tr.cnt ≤ cntL (trs l) := by rw [trs_split h, cntL_app, cntL]; omega
theorem bytL_kid : bytL (trs (l.take i)) + (l.getD i HT.z).tr.byt ≤ bytL (trs l) := by rw [trs_split h, bytL_app, bytL]; omega
theorem sizL_kid : sizL (trs (l.take i)) + (l.getD i HT.z).tr.siz ≤ sizL (trs l) := by rw [trs_split h, sizL_app, sizL]; omega
theorem depL_kid : (l.getD i HT.z).tr.dep ≤ depL (trs l) := by rw [trs_split h, depL_app, depL]; omega
end
theorem cnt_pos (t : Tr) : 1 ≤ t.cnt := by cases t; rw [Tr.cnt]; omega
theorem cntL_len : ∀ l : List Tr, l.length ≤ cntL l
  | [] => Nat.le_refl _
  | x :: l => by have := cntL_len l; have := cnt_pos x; rw [cntL, List.length_cons]; omega
def Sm (t : Tr) : Prop := t.byt + 5 * t.cnt ≤ 1000000
theorem Sm.kid {tg : UInt8} {bv lv : Value} {bs : List UInt8} {l : List HT} (h : Sm (HT.nd tg bv bs lv l).tr) {i : Nat} (hi : i < l.length) : Sm (l.getD i HT.z).tr := by
  have h1 := cntL_kid hi
  have h2 := bytL_kid hi
  have h : bs.length + bytL (trs l) + 5 * (1 + cntL (trs l)) ≤ 1000000 := h
  unfold Sm; omega
theorem siz_le : ∀ t : Tr, Sm t → t.siz ≤ t.byt + 5 * t.cnt := by
  intro t
  induction t using Tr.ind with
  | _ tg bs l ih =>
    intro h
    have h : bs.length + bytL l + 5 * (1 + cntL l) ≤ 1000000 := h
    have key : ∀ m : List Tr, (∀ x ∈ m, x ∈ l) → bytL m + 5 * cntL m ≤ 1000000 → sizL m ≤ bytL m + 5 * cntL m := by
      intro m
      induction m with
      | nil => intro _ _; exact Nat.le_refl _
      | cons x m ihm =>
        intro hm hb
        rw [bytL, cntL] at hb
        have h1 := ih x (hm x (List.mem_cons_self ..)) (by unfold Sm; omega)
        have h2 := ihm (fun y hy => hm y (List.mem_cons_of_mem _ hy)) zz16
        rw [sizL, bytL, cntL]; omega
    have h1 := key l (fun _ hx => hx) zz16
    have h2 := wideF_le (bs.length + sizL l) zz16
    rw [Tr.siz, Tr.byt, Tr.cnt]; omega
theorem content_le {t : UInt8} {bs : List UInt8} {l : List Tr} (h : Sm (.nd t bs l)) : bs.length + sizL l ≤ 1000000 := by
  have h1 := siz_le _ h
  have h2 : bs.length + bytL l + 5 * (1 + cntL l) ≤ 1000000 := h
  rw [Tr.siz, Tr.byt, Tr.cnt] at h1; omega
theorem size_step (t : HT) (w : World) (ht : HSeen w.cell? t) (hsm : Sm t.tr) (ih : ∀ x ∈ t.kids, ∀ (w : World), HSeen w.cell? x → Sm x.tr → Calls Tryz.prog 81 [.agg x.c.toArray].toArray w (Pur w (.int .i64 ((x.tr.siz : Nat) : Int)))) :
    Calls Tryz.prog 81 [.agg t.c.toArray].toArray w (Pur w (.int .i64 ((t.tr.siz : Nat) : Int))) := by
  obtain ⟨tg, bv, bs, lv, l⟩ := t
  have hb := ht.1
  have hk := ht.2.1
  have svb := hb.sv
  have svl := hk.sv
  have lb := svb.le
  have ll := svl.le
  simp only [maxLen] at lb ll
  refine enter (m := 26) (R := Mem w [] [] []) Tryz.func81 rfl rfl (Nat.le_of_ble_eq_true rfl) (Mem.start w) ?_
  refine wpc_seq <| wpc_region ?_
  refine wpl_t (t_box rfl [.int .u8 (tg.toNat : Int), bv, lv] rfl) rfl (fun b1 => ?_)
  refine wpl_q (q_pure rfl) rfl <| wpl_nil <| ex_then <| wpc_seq <| wpc_region <| wpl_q (q_field Tryz.underlying60 rfl Tryz.ti49 rfl rfl _ rfl) rfl <| wpl_q (q_ld Tryz.underlying49 rfl rfl rfl) rfl ?_
  refine wpl_q (q_lenW Tryz.underlying49 rfl zz5) rfl ?_
  refine wpl_q (q_pure rfl) rfl <| wpl_nil <| ex_then <| wpc_seq <| wpc_seq <| wpc_region <| wpl_q (q_field Tryz.underlying60 rfl Tryz.ti58 rfl rfl _ rfl) rfl <| wpl_q (q_ld Tryz.underlying58 rfl rfl rfl) rfl ?_
  refine wpl_q (q_lenW Tryz.underlying58 rfl zz5) rfl ?_
  refine wpl_q (q_pure rfl) rfl <| wpl_nil <| ex_then <| wpc_block ?_
  refine wpc_loopc (ι := { x : Nat // (x ≤ l.length) }) [(10, _), (11, _)] (fun x Lc => (12, .int .i64 ((x.1 : Nat) : Int)) :: (3, .int .i64 ((bs.length + sizL (trs (l.take x.1)) : Nat) : Int)) :: Lc) (fun x => Mem w [] [] []) (fun x => l.length - x.1) ⟨0, (Nat.zero_le _)⟩ zz10 ?_ ?_
  ·
   exact fun w h => h.sub .nil .nil
  ·
   rintro ⟨i, hi0⟩; try dsimp only
   have hi0 : i ≤ l.length := hi0
   refine wpc_seq <| wpc_region <| wpl_q (q_pure rfl) rfl <| wpl_nil <| ex_then <| wpc_seq ?_
   refine wpc_cond rfl (fun hc13 => ?_) (fun hc13 => ?_)
   ·
    simp only [decide_eq_true_eq] at hc13
    have hil : i < l.length := by omega
    haveI := (ht.kid hil).sv.one
    have hs1 := sizL_take hil
    have hs2 := sizL_kid hil
    have hs3 := content_le hsm
    refine wpc_skip <| ex_then <| wpc_seq <| wpc_block <| wpc_seq <| wpc_region ?_
    refine wpl_q (q_idxW Tryz.underlying58 Tryz.ti60 rfl rfl zz5 zz1) rfl ?_
    refine wpl_q (q_ldWN Tryz.underlying60 rfl Tryz.ti60 rfl (fun w h => h.seen_old hk) (l.getD i HT.z).c (cat_part HT.c_length HT.z hil) (HT.c_length _)) rfl ?_
    refine wpl_t (t_alloc Tryz.ti60 HT.z.c rfl) rfl (fun b5 => ?_)
    refine wpl_t0 (t_stA Tryz.ti60 rfl rfl LenC.h OneC.h LenC.h) (fun _ => ?_)
    refine wpl_nil <| ex_then <| wpc_region <| wpl_q (q_pure rfl) rfl <| wpl_q (q_ldN Tryz.underlying60 rfl Tryz.ti60 rfl LenC.h) rfl ?_
    refine wpl_t (t_pur Tryz.hb81 rfl fun w h => ih (l.getD i HT.z) (getD_memH hil) w ((ht.kid hil).old h) (hsm.kid hil)) rfl (fun b18 => ?_)
    refine wpl_q (q_addN rfl rfl zz1) rfl ?_
    refine wpl_re 19 rfl (congrArg (fun n : Nat => Value.int .i64 (n : Int)) (show bs.length + sizL (trs (l.take i)) + (l.getD i HT.z).tr.siz = bs.length + sizL (trs (l.take (i + 1))) from zz16)) ?_
    refine wpl_q (q_pure rfl) rfl <| wpl_nil <| ex_block <| ex_then <| wpc_region ?_
    refine wpl_q (q_addN (b := 1) rfl rfl zz1) rfl ?_
    refine wpl_q (q_pure rfl) rfl <| wpl_nil ?_
    refine ex_again ⟨i + 1, zz16⟩ ?_ ?_ ?_
    ·
     exact zz10
    ·
     exact fun w h => h.sub .nil .nil
    ·
     (show l.length - (i + 1) < l.length - i); omega
   ·
    simp only [decide_eq_false_iff_not] at hc13
    obtain rfl : i = l.length := by omega
    rw [List.take_length]
    have hs3 := content_le hsm
    have hw := wideF_le (bs.length + sizL (trs l)) zz16
    refine wpc_exit ?_
    refine ex_then_exit ?_
    refine ex_then_exit ?_
    refine ex_block_hit ?_
    refine ex_then <| wpc_seq <| wpc_region <| wpl_q (q_pure rfl) rfl ?_
    refine wpl_t (t_pur Tryz.hb82 rfl fun w h => wide _ w zz16) rfl (fun b22 => ?_)
    refine wpl_q (q_addN (a := 1) rfl rfl zz1) rfl ?_
    refine wpl_q (q_pure rfl) rfl ?_
    refine wpl_q (q_addN rfl rfl zz1) rfl ?_
    refine wpl_q (q_pure rfl) rfl <| wpl_nil <| ex_then <| wpc_ret ?_
    refine ret1 (.inl rfl) rfl rfl ?_
    exact fun w h => ⟨rfl, h.below⟩
theorem size : ∀ (t : HT) (w : World), HSeen w.cell? t → Sm t.tr → Calls Tryz.prog 81 [.agg t.c.toArray].toArray w (Pur w (.int .i64 ((t.tr.siz : Nat) : Int))) := by
  intro t
  induction t using HT.ind with
  | _ tg bv bs lv l ih => intro w h hs; exact size_step _ w h hs (fun x hx w hx' hs' => ih x hx w hx' hs')
end Go.Proofs.YtgnablliekgbgaaGreatDoor
namespace Go.Proofs.YtgnablliekgbgaaGreatDoor
open Go Go.PL Go.RowKit
def checkF (t : Tr) : Int := if 4000 < t.cnt ∨ 12 < t.dep then 4 else if t.shp = false then 8 else if 65536 < t.siz then 4 else 0
end Go.Proofs.YtgnablliekgbgaaGreatDoor
namespace Go.Proofs.YtgnablliekgbgaaGreatDoor
open Go Go.PL Go.RowKit
section
variable {P : Program} {n : Cx} {R : World → Prop} {L : Slots} {Q : Exit → Act → World → Prop} {w0 : World} {Ln : List Nat} {M : List Ent} {S : List Fact}
theorem t_cvSB {s t e : TypeId} {x : Operand} {bs : List UInt8} (hs' : P.underlying s = some .string) (hu : P.underlying t = some (.slice e)) (he : P.underlying e = some (.int .u8)) (hx : ev L x = some (str bs)) (hl : bs.length ≤ maxLen) :
    TOpP P Q n (Mem w0 Ln M S) L (.convert s t x) Value (fun v => SV v bs.length) (fun v => v) (fun v => Mem w0 Ln M (Go.PL.seen v bs.length 1 (v8s bs) :: S)) := by
  have h : TOp P Q n (Mem w0 Ln M S) L (.convert s t x) { v : Value // SV v bs.length } (fun v => v.1) (fun v => Mem w0 Ln M (Go.PL.seen v.1 bs.length 1 (v8s bs) :: S)) := by
    intro d ty pos af g a w K hsl hm hk
    have r := Lib.run_convert_string_bytes (P := P) w s t e ⟨bs.toArray⟩ hs' hu he
    have hge := grownCap_ge w bs.length 0 e
    have hle := grownCap_le_maxLen w bs.length 0 e hl
    have hx' : ev L x = some (.string ⟨bs.toArray⟩) := hx
    have hsz : (⟨bs.toArray⟩ : ByteArray).size = bs.length := rfl
    unfold Oper.wp
    have hrun : (execOp a.eval ⟨d, .convert s t x, ty, pos, af, g⟩).run P w = .ok (.value (.slice (some ⟨w.heap.size, 0, none⟩) bs.length (grownCap w bs.length 0 e))) (Lib.bytesWorld w e ⟨bs.toArray⟩) := by
      simp only [execOp, hsl.eval hx']
      simp only [Sem.run_bind, r]; rfl
    rw [hrun]
    have hb : Below w.heap.size w (Lib.bytesWorld w e ⟨bs.toArray⟩) := by
      refine ⟨rfl, rfl, rfl, ?_, fun k hk => ?_⟩
      · rw [Lib.bytesWorld_size]; omega
      · exact Lib.bytesWorld_at_old w e _ k hk
    have hsv : SV (.slice (some ⟨w.heap.size, 0, none⟩) bs.length (grownCap w bs.length 0 e)) bs.length := ⟨_, _, rfl, hge, hle, fun h => by cases h⟩
    have hn : New w.heap.size [] [Go.PL.seen (.slice (some ⟨w.heap.size, 0, none⟩) bs.length (grownCap w bs.length 0 e)) bs.length 1 (v8s bs)] (Lib.bytesWorld w e ⟨bs.toArray⟩) := by
      refine ⟨zz47, zz47, zz47, fun f hf => ?_⟩
      rw [List.mem_singleton] at hf
      subst hf
      refine ⟨by rw [v8s_length]; simp, _, _, rfl, hge, hle, .inr ⟨_, rfl, fun j u hj => ?_⟩⟩
      have hj2 : j < bs.length := by
        have := (List.getElem?_eq_some_iff.1 hj).1
        rwa [v8s_length] at this
      rw [v8s_get (xs := bs) (i := j) hj2] at hj
      have hc := Lib.bytesWorld_cell w e ⟨bs.toArray⟩ j hj2
      have ea : (⟨w.heap.size, 0, none⟩ : Addr).add j = ⟨w.heap.size, j, none⟩ := by rw [add_lit, Nat.zero_add]
      rw [ea]
      simp only [rdF]
      rw [if_pos ⟨Nat.le_refl _, rfl⟩, hc, ← hj]
    exact hk ⟨_, hsv⟩ _ (hm.call hb hn)
  exact h.rep fun x w h => ⟨x.1, x.2, rfl, h⟩
end
end Go.Proofs.YtgnablliekgbgaaGreatDoor
namespace Go.Proofs.YtgnablliekgbgaaGreatDoor
open Go Go.PL Go.RowKit
theorem clNil {r : Rd} {a : Option Addr} {cap m sz : Nat} {vs : List Value} (h : Seen r (.slice a m cap) m sz vs) (hn : a.isNone = true) : m = 0 := by
  obtain ⟨h1, h2, h3⟩ := h.cap
  have := h3 (Option.isNone_iff_eq_none.1 hn)
  omega
theorem sm_len {tg : UInt8} {bv lv : Value} {bs : List UInt8} {l : List HT} (h : Sm (HT.nd tg bv bs lv l).tr) : l.length ≤ 200000 ∧ bs.length ≤ 1000000 := by
  have h1 := cntL_len (trs l)
  rw [trs_length] at h1
  have h : bs.length + bytL (trs l) + 5 * (1 + cntL (trs l)) ≤ 1000000 := h
  omega
theorem tw_get {ns l : List HT} {i : Nat} (hn : ns.length = i) (hi : i < l.length) : (ns ++ l.drop i).getD i HT.z = l.getD i HT.z := by
  rw [List.getD_eq_getElem?_getD, List.getElem?_append_right zz16, hn, Nat.sub_self, List.getElem?_drop, Nat.add_zero, List.getD_eq_getElem?_getD]
theorem tw_put {ns l : List HT} {i : Nat} (hn : ns.length = i) (hi : i < l.length) (y : HT) : (hcs (ns ++ l.drop i)).take (i * 3) ++ y.c ++ (hcs (ns ++ l.drop i)).drop (i * 3 + y.c.length) = hcs (ns ++ [y] ++ l.drop (i + 1)) := by
  rw [cat_put HT.c_length y (by rw [List.length_append, List.length_drop]; omega)]
  congr 2
  rw [List.set_append_right _ _ zz16, hn, Nat.sub_self, drop_consD HT.z hi, List.set_cons_zero, List.append_assoc]; rfl
theorem entsL_snoc (ns : List HT) (y : HT) : (y.ents ++ entsL ns).Perm (entsL (ns ++ [y])) := by
  rw [entsL_append]
  show (y.ents ++ entsL ns).Perm (entsL ns ++ (y.ents ++ []))
  rw [List.append_nil]; exact List.perm_append_comm
theorem snoc_len (ns : List HT) (y : HT) : (ns ++ [y]).length = ns.length + 1 := by rw [List.length_append]; rfl
theorem oneH {t : UInt8} {bv lv : Value} {n m : Nat} (h : SV bv n) (h2 : SV lv m) : OneC [Value.int .u8 (t.toNat : Int), bv, lv] := OneC.cons rfl (OneC.cons h.one (OneC.cons h2.one oneC_nil))
theorem built_o1 (t : UInt8) {v : Value} {n : Nat} (hv : SV v n) : Tryz.prog.built 60 [(0, .int .u8 (t.toNat : Int)), (1, v)] = some [Value.int .u8 (t.toNat : Int), v, nl].toArray := by
  obtain ⟨a, cap, rfl, _⟩ := hv
  kernel_rfl
theorem built_o2 (t : UInt8) {v : Value} {n : Nat} (hv : SV v n) : Tryz.prog.built 60 [(0, .int .u8 (t.toNat : Int)), (2, v)] = some [Value.int .u8 (t.toNat : Int), nl, v].toArray := by
  obtain ⟨a, cap, rfl, _⟩ := hv
  kernel_rfl
theorem built_o0 (t : UInt8) : Tryz.prog.built 60 [(0, .int .u8 (t.toNat : Int))] = some [Value.int .u8 (t.toNat : Int), nl, nl].toArray := by kernel_rfl
theorem madeT {w0 w : World} {S : List Fact} {tg : UInt8} {bv lv : Value} {bs : List UInt8} {l : List HT} (h : Mem w0 [] (.row bv bs.length 5 1 (v8s bs) :: .row lv l.length 60 3 (hcs l) :: entsL l) S w) : New w0.heap.size (HT.nd tg bv bs lv l).ents [] w := h.made (Sub.refl _) .nil
theorem hcs_one {l : List HT} (h : ∀ x ∈ l, x.sv) : ∀ u ∈ hcs l, u.oneCell' = true := by
  intro u hu
  obtain ⟨cs, hc, hu⟩ := List.mem_flatten.1 hu
  obtain ⟨x, hx, rfl⟩ := List.mem_map.1 hc
  exact (h x hx).one.h u hu
theorem HSeenL.sv {r : Rd} {l : List HT} (h : HSeenL r l) : ∀ x ∈ l, x.sv := fun x hx => (HSeenL_iff.1 h x hx).sv
theorem cloneB0 (a : Option Addr) (cap : Nat) (xs : List UInt8) (w : World) (hav : Seen w.cell? (.slice a xs.length cap) xs.length 1 (v8s xs)) (hl : xs.length ≤ 1000000) :
    Calls Tryz.prog 98 [.slice a xs.length cap].toArray w (GivesP w (fun v => SV v xs.length) (fun v => v) (fun v => [.row v xs.length 5 1 (v8s xs)]) (fun _ => [])) := by
  have sav := hav.sv
  refine enter (m := 8) (R := Mem w [] [] []) Tryz.func98 rfl rfl (Nat.le_of_ble_eq_true rfl) (Mem.start w) ?_
  refine wpc_seq <| wpc_region <| wpl_q (q_pure rfl) rfl <| wpl_nil <| ex_then <| wpc_seq <| wpc_seq <| wpc_region <| wpl_q (q_pure rfl) rfl ?_
  refine wpl_q (q_slNil Tryz.underlying49 rfl rfl zz8) rfl ?_
  refine wpl_nil <| ex_then ?_
  refine wpc_cond rfl (fun hc4 => ?_) (fun hc4 => ?_)
  ·
   have h0 := clNil hav hc4
   have hx0 := List.eq_nil_of_length_eq_zero h0
   subst hx0
   refine wpc_seq <| wpc_region <| wpl_q (q_pure rfl) rfl <| wpl_nil <| ex_then <| wpc_ret ?_
   refine ex_then_ret ?_
   refine ret1 (.inl rfl) rfl rfl ?_
   exact fun w h => ⟨.slice none 0 0, SV.nil, rfl, h.below, (h.nilRow 5 1).made zz6 .nil⟩
  ·
   refine wpc_skip <| ex_then <| wpc_seq <| wpc_region ?_
   refine wpl_tp (t_bs0W Tryz.underlying49 Tryz.ti5) rfl (fun b5 p5 => ?_)
   refine wpl_q (q_pure rfl) rfl ?_
   refine wpl_tp (t_ap0 Tryz.underlying49 Tryz.ti5 rfl zz22 rfl rfl (fun w h => h.seen_old hav) (v8s_one _) zz1 zz1) rfl (fun b7 p7 => ?_)
   refine wpl_q (q_pure rfl) rfl <| wpl_nil <| ex_then <| wpc_ret ?_
   refine ret1 (.inl rfl) rfl rfl ?_
   exact fun w h => ⟨b7, p7, rfl, h.below, h.made SubC.h .nil⟩
theorem cloneO0 (a : Option Addr) (cap : Nat) (l : List HT) (w : World) (hav : Seen w.cell? (.slice a l.length cap) l.length 3 (hcs l)) (hl : l.length ≤ 200000) (ho : ∀ x ∈ l, x.sv) :
    Calls Tryz.prog 99 [.slice a l.length cap].toArray w (GivesP w (fun v => SV v l.length) (fun v => v) (fun v => [.row v l.length 60 3 (hcs l)]) (fun _ => [])) := by
  have sav := hav.sv
  refine enter (m := 8) (R := Mem w [] [] []) Tryz.func99 rfl rfl (Nat.le_of_ble_eq_true rfl) (Mem.start w) ?_
  refine wpc_seq <| wpc_region <| wpl_q (q_pure rfl) rfl <| wpl_nil <| ex_then <| wpc_seq <| wpc_seq <| wpc_region <| wpl_q (q_pure rfl) rfl ?_
  refine wpl_q (q_slNil Tryz.underlying58 rfl rfl zz8) rfl ?_
  refine wpl_nil <| ex_then ?_
  refine wpc_cond rfl (fun hc4 => ?_) (fun hc4 => ?_)
  ·
   have h0 := clNil hav hc4
   have hx0 := List.eq_nil_of_length_eq_zero h0
   subst hx0
   refine wpc_seq <| wpc_region <| wpl_q (q_pure rfl) rfl <| wpl_nil <| ex_then <| wpc_ret ?_
   refine ex_then_ret ?_
   refine ret1 (.inl rfl) rfl rfl ?_
   exact fun w h => ⟨.slice none 0 0, SV.nil, rfl, h.below, (h.nilRow 60 3).made zz6 .nil⟩
  ·
   refine wpc_skip <| ex_then <| wpc_seq <| wpc_region ?_
   refine wpl_tp (t_bs0W Tryz.underlying58 Tryz.ti60) rfl (fun b5 p5 => ?_)
   refine wpl_q (q_pure rfl) rfl ?_
   refine wpl_tp (t_ap0 Tryz.underlying58 Tryz.ti60 rfl zz22 rfl rfl (fun w h => h.seen_old hav) (hcs_one ho) zz1 zz1) rfl (fun b7 p7 => ?_)
   refine wpl_q (q_pure rfl) rfl <| wpl_nil <| ex_then <| wpc_ret ?_
   refine ret1 (.inl rfl) rfl rfl ?_
   exact fun w h => ⟨b7, p7, rfl, h.below, h.made SubC.h .nil⟩
theorem cloneB (v : Value) (xs : List UInt8) (w : World) (h : Seen w.cell? v xs.length 1 (v8s xs)) (hl : xs.length ≤ 1000000) : Calls Tryz.prog 98 [v].toArray w (GivesP w (fun v => SV v xs.length) (fun v => v) (fun v => [.row v xs.length 5 1 (v8s xs)]) (fun _ => [])) := by
  obtain ⟨a, cap, rfl, _⟩ := h.sv
  exact cloneB0 a cap xs w h hl
theorem cloneO (v : Value) (l : List HT) (w : World) (h : Seen w.cell? v l.length 3 (hcs l)) (hl : l.length ≤ 200000) (ho : ∀ x ∈ l, x.sv) : Calls Tryz.prog 99 [v].toArray w (GivesP w (fun v => SV v l.length) (fun v => v) (fun v => [.row v l.length 60 3 (hcs l)]) (fun _ => [])) := by
  obtain ⟨a, cap, rfl, _⟩ := h.sv
  exact cloneO0 a cap l w h hl ho
theorem refTwin_step (t : HT) (w : World) (ht : HSeen w.cell? t) (hsm : Sm t.tr) (ih : ∀ x ∈ t.kids, ∀ (w : World), HSeen w.cell? x → Sm x.tr → Calls Tryz.prog 74 [.agg x.c.toArray].toArray w (GivesP w (fun y : HT => y.tr = x.tr ∧ y.sv) (fun y => .agg y.c.toArray) (fun y => y.ents) (fun _ => []))) :
    Calls Tryz.prog 74 [.agg t.c.toArray].toArray w (GivesP w (fun y : HT => y.tr = t.tr ∧ y.sv) (fun y => .agg y.c.toArray) (fun y => y.ents) (fun _ => [])) := by
  obtain ⟨tg, bv, bs, lv, l⟩ := t
  have hb := ht.1
  have hk := ht.2.1
  have svb := hb.sv
  have svl := hk.sv
  have lb := svb.le
  have ll := svl.le
  simp only [maxLen] at lb ll
  have hln := sm_len hsm
  refine enter (m := 31) (R := Mem w [] [] []) Tryz.func74 rfl rfl (Nat.le_of_ble_eq_true rfl) (Mem.start w) ?_
  refine wpc_seq <| wpc_region ?_
  refine wpl_t (t_box rfl [.int .u8 (tg.toNat : Int), bv, lv] rfl) rfl (fun b1 => ?_)
  refine wpl_t (t_alloc Tryz.ti60 [.int .u8 0, nl, nl] rfl) rfl (fun b2 => ?_)
  refine wpl_nil <| ex_then <| wpc_seq ?_
  refine wpc_draw 99 zz8 (fun _ h => h.drew) ?_
  refine wpd_p 0 rfl zz8 trivial (q_field Tryz.underlying60 rfl Tryz.ti5 rfl rfl _ rfl) rfl sk0 ?_
  refine wpd_q 1 rfl zz8 trivial (q_ld Tryz.underlying5 rfl rfl zz38) rfl (fun _ h => h) ?_
  refine wpd_p 3 rfl zz8 trivial (q_field Tryz.underlying60 rfl Tryz.ti49 rfl rfl _ rfl) rfl sk0 ?_
  refine wpd_q 4 rfl zz8 trivial (q_ld Tryz.underlying49 rfl rfl rfl) rfl (fun _ h => h) ?_
  refine wpd_two 2 7 zz8 ?_ ?_
  ·
   refine wpa_tp 2 rfl trivial (t_bs0W Tryz.underlying49 Tryz.ti5) rfl (fun _ => (fun w h => .inr (h.sub SubC.h SubC.h))) (fun b7 p7 => ?_)
   refine wpd_two 5 7 zz8 ?_ ?_
   ·
    refine wpa_tp 5 rfl trivial (t_ap0 Tryz.underlying49 Tryz.ti5 rfl zz22 rfl rfl (fun w h => h.seen_old hb) (v8s_one _) zz1 zz1) rfl (fun _ => (fun w h => .inr (h.sub SubC.h SubC.h))) (fun b10 p10 => ?_)
    haveI := oneH (t := tg) p10 SV.nil
    refine wpd_p 6 rfl zz8 trivial (q_build (cs := [.int .u8 (tg.toNat : Int), b10, nl]) rfl (built_o1 tg p10)) rfl (fun w h => .inr (h.sub SubC.h SubC.h)) ?_
    refine wpd_t 7 rfl zz8 trivial (t_alloc Tryz.ti60 [.int .u8 0, nl, nl] rfl) rfl (fun _ => (fun w h => .inr (h.sub SubC.h SubC.h))) (fun b3 => ?_)
    refine wpd_t0 8 rfl zz8 trivial (t_stA Tryz.ti60 rfl rfl LenC.h OneC.h LenC.h) (fun _ => (fun w h => .inr (h.sub SubC.h SubC.h))) (fun _ => ?_)
    refine wpd_done zz8 ?_
    refine ex_then <| wpc_seq <| wpc_seq <| wpc_region <| wpl_q (q_pure rfl) rfl <| wpl_nil <| ex_then <| wpc_block ?_
    refine wpc_loopc (ι := { x : Nat × List HT × Value // (x.1 ≤ l.length) ∧ (x.2.1.length = x.1) ∧ (trs x.2.1 = trs (l.take x.1)) ∧ (SV x.2.2 x.2.1.length) }) [(1, _), (2, _), (3, _)] (fun x Lc => (4, .int .i64 ((x.1.1 : Nat) : Int)) :: Lc) (fun x => Mem w [] (.blk b3 60 [.int .u8 (tg.toNat : Int), b10, x.1.2.2] :: .blk b2 60 [.int .u8 0, nl, nl] :: .blk b1 60 [.int .u8 (tg.toNat : Int), bv, lv] :: .row b10 bs.length 5 1 (v8s bs) :: .row x.1.2.2 x.1.2.1.length 60 3 (hcs x.1.2.1) :: entsL x.1.2.1) []) (fun x => l.length - x.1.1) ⟨(0, [], nl), ⟨Nat.zero_le _, rfl, rfl, SV.nil⟩⟩ zz10 ?_ ?_
    ·
     exact fun w h => by
       have h2 : Mem _ _ [.blk b3 60 [.int .u8 (tg.toNat : Int), b10, nl], .blk b2 60 [.int .u8 0, nl, nl], .blk b1 60 [.int .u8 (tg.toNat : Int), bv, lv], .row b10 bs.length 5 1 (v8s bs), .row nl 0 60 3 []] [] w := (h.nilRow 60 3).sel
       exact h2
    ·
     rintro ⟨⟨i, ns, nv⟩, ⟨hi0, hi1, hi2, hi3⟩⟩; try dsimp only
     have hi0 : i ≤ l.length := hi0; have hi1 : ns.length = i := hi1; have hi2 : trs ns = trs (l.take i) := hi2; have hi3 : SV nv ns.length := hi3
     refine wpc_seq <| wpc_seq <| wpc_region <| wpl_q (q_pure rfl) rfl <| wpl_q (q_field Tryz.underlying60 rfl Tryz.ti58 rfl rfl _ rfl) rfl <| wpl_q (q_ld Tryz.underlying58 rfl rfl rfl) rfl ?_
     refine wpl_q (q_lenW Tryz.underlying58 rfl zz5) rfl ?_
     refine wpl_q (q_pure rfl) rfl <| wpl_nil <| ex_then ?_
     refine wpc_cond rfl (fun hc16 => ?_) (fun hc16 => ?_)
     ·
      simp only [decide_eq_true_eq] at hc16
      have hil : i < l.length := by omega
      haveI := (ht.kid hil).sv.one
      have hln := sm_len hsm
      refine wpc_skip <| ex_then <| wpc_seq <| wpc_block ?_
      refine wpc_draw 9 zz8 (fun _ h => h.drew) ?_
      refine wpd_p 0 rfl zz8 trivial (q_field Tryz.underlying60 rfl Tryz.ti58 rfl rfl _ rfl) rfl sk0 ?_
      refine wpd_q 1 rfl zz8 trivial (q_ld Tryz.underlying58 rfl rfl rfl) rfl (fun _ h => h) ?_
      refine wpd_p 2 rfl zz8 trivial (q_field Tryz.underlying60 rfl Tryz.ti58 rfl rfl _ rfl) rfl sk0 ?_
      refine wpd_qB 3 [5, 6, 7, 8, 9] rfl zz8 trivial (q_ld Tryz.underlying58 rfl rfl rfl) rfl (fun _ h => h) ?_
      refine wpd_p 4 rfl zz8 trivial (q_pure rfl) rfl sk0 ?_
      refine wpd_p 5 rfl zz8 trivial (q_idxW Tryz.underlying58 Tryz.ti60 rfl rfl zz5 zz1) rfl sk0 ?_
      refine wpd_qB 6 [7, 8, 9] rfl zz8 trivial (q_ldWN Tryz.underlying60 rfl Tryz.ti60 rfl (fun w h => h.seen_old hk) (l.getD i HT.z).c (cat_part HT.c_length HT.z hil) (HT.c_length _)) rfl (fun _ h => h) ?_
      refine wpd_tp 7 rfl zz8 trivial (t_callE (fun y : HT => .blk b3 60 [.int .u8 (tg.toNat : Int), b10, nv] :: .blk b2 60 [.int .u8 0, nl, nl] :: .blk b1 60 [.int .u8 (tg.toNat : Int), bv, lv] :: .row b10 bs.length 5 1 (v8s bs) :: .row nv ns.length 60 3 (hcs ns) :: (y.ents ++ entsL ns)) (fun y => List.perm_append_comm_assoc y.ents [.blk b3 60 [.int .u8 (tg.toNat : Int), b10, nv], .blk b2 60 [.int .u8 0, nl, nl], .blk b1 60 [.int .u8 (tg.toNat : Int), bv, lv], .row b10 bs.length 5 1 (v8s bs), .row nv ns.length 60 3 (hcs ns)] (entsL ns)) Tryz.hb74 rfl fun w h => ih (l.getD i HT.z) (getD_memH hil) w ((ht.kid hil).old h) (hsm.kid hil)) rfl (fun _ => (fun w h => .inr (h.sub SubC.h SubC.h))) (fun b26 p26 => ?_)
      haveI := p26.2.one
      have sb28 := p26.2
      refine wpd_tp 8 rfl zz8 trivial (t_bsG [.agg b26.c.toArray] b26.c Tryz.underlying58 Tryz.ti60 rfl zz22 rfl zz22 zz22 rfl zz44 (List.append_nil _)) rfl (fun _ => (fun w h => .inr (h.sub SubC.h SubC.h))) (fun b27 p27 => ?_)
      refine wpd_tp 9 rfl zz8 trivial (t_apW Tryz.underlying58 Tryz.ti60 rfl zz22 rfl rfl (fun w h => zz12) OneC.h zz1 zz1 (hcs (ns ++ [b26])) (cat_snoc HT.c ns b26)) rfl (fun _ => skk rfl) (fun b28 p28 => ?_)
      refine wpd_p 10 rfl zz8 trivial (q_field Tryz.underlying60 rfl Tryz.ti58 rfl rfl _ rfl) rfl (skk rfl) ?_
      refine wpd_t0 11 rfl zz8 trivial (t_st1 Tryz.ti58 rfl rfl (SV.one zz5) zz4 [.int .u8 (tg.toNat : Int), b10, b28] rfl) (fun _ => skk rfl) (fun _ => ?_)
      refine wpd_done zz8 ?_
      refine ex_block <| ex_then <| wpc_region <| wpl_q (q_pure rfl) rfl ?_
      refine wpl_q (q_addN (b := 1) rfl rfl zz1) rfl ?_
      refine wpl_q (q_pure rfl) rfl <| wpl_nil ?_
      refine ex_again ⟨(i + 1, ns ++ [b26], b28), ⟨zz16, by rw [snoc_len, hi1], by rw [trs_append, hi2, trs_takeS hil, ← p26.1]; rfl, by rw [snoc_len]; exact p28⟩⟩ ?_ ?_ ?_
      ·
       exact zz10
      ·
       exact fun w h => by
         dsimp only
         rw [snoc_len]
         have h2 := h.sub (M' := .blk b3 60 [.int .u8 (tg.toNat : Int), b10, b28] :: .blk b2 60 [.int .u8 0, nl, nl] :: .blk b1 60 [.int .u8 (tg.toNat : Int), bv, lv] :: .row b10 bs.length 5 1 (v8s bs) :: .row b28 (ns.length + 1) 60 3 (hcs (ns ++ [b26])) :: (b26.ents ++ entsL ns)) (S' := []) SubC.h .nil
         exact h2.perm ((((((entsL_snoc ns b26).cons _).cons _).cons _).cons _).cons _)
      ·
       (show l.length - (i + 1) < l.length - i); omega
     ·
      simp only [decide_eq_false_iff_not] at hc16
      obtain rfl : i = l.length := by omega
      rw [List.take_length] at hi2
      haveI := oneH (t := tg) p10 hi3
      refine wpc_exit ?_
      refine ex_then_exit ?_
      refine ex_then_exit ?_
      refine ex_block_hit ?_
      refine ex_then <| wpc_seq <| wpc_region <| wpl_q (q_ldN Tryz.underlying60 rfl Tryz.ti60 rfl LenC.h) rfl ?_
      refine wpl_t0 (t_stA Tryz.ti60 rfl rfl LenC.h OneC.h LenC.h) (fun _ => ?_)
      refine wpl_nil <| ex_then <| wpc_ret ?_
      refine retv1 (.inl rfl) rfl (rv_agg Tryz.underlying60 rfl Tryz.ti60 rfl (fun w h => h.atB) rfl) ?_
      exact fun w h => ⟨.nd tg b10 bs nv ns, ⟨by show Tr.nd tg bs (trs ns) = Tr.nd tg bs (trs l); rw [hi2], p10, hi3⟩, rfl, h.below, madeT (h.sub SubC.h .nil)⟩
   ·
    refine wpa_t 7 rfl trivial (t_alloc Tryz.ti60 [.int .u8 0, nl, nl] rfl) rfl (fun _ => (fun w h => .inr (h.sub SubC.h SubC.h))) (fun b3 => ?_)
    refine wpd_tp 5 rfl zz8 trivial (t_ap0 Tryz.underlying49 Tryz.ti5 rfl zz22 rfl rfl (fun w h => h.seen_old hb) (v8s_one _) zz1 zz1) rfl (fun _ => (fun w h => .inr (h.sub SubC.h SubC.h))) (fun b10 p10 => ?_)
    haveI := oneH (t := tg) p10 SV.nil
    refine wpd_p 6 rfl zz8 trivial (q_build (cs := [.int .u8 (tg.toNat : Int), b10, nl]) rfl (built_o1 tg p10)) rfl (fun w h => .inr (h.sub SubC.h SubC.h)) ?_
    refine wpd_t0 8 rfl zz8 trivial (t_stA Tryz.ti60 rfl rfl LenC.h OneC.h LenC.h) (fun _ => (fun w h => .inr (h.sub SubC.h SubC.h))) (fun _ => ?_)
    refine wpd_done zz8 ?_
    refine ex_then <| wpc_seq <| wpc_seq <| wpc_region <| wpl_q (q_pure rfl) rfl <| wpl_nil <| ex_then <| wpc_block ?_
    refine wpc_loopc (ι := { x : Nat × List HT × Value // (x.1 ≤ l.length) ∧ (x.2.1.length = x.1) ∧ (trs x.2.1 = trs (l.take x.1)) ∧ (SV x.2.2 x.2.1.length) }) [(1, _), (2, _), (3, _)] (fun x Lc => (4, .int .i64 ((x.1.1 : Nat) : Int)) :: Lc) (fun x => Mem w [] (.blk b3 60 [.int .u8 (tg.toNat : Int), b10, x.1.2.2] :: .blk b2 60 [.int .u8 0, nl, nl] :: .blk b1 60 [.int .u8 (tg.toNat : Int), bv, lv] :: .row b10 bs.length 5 1 (v8s bs) :: .row x.1.2.2 x.1.2.1.length 60 3 (hcs x.1.2.1) :: entsL x.1.2.1) []) (fun x => l.length - x.1.1) ⟨(0, [], nl), ⟨Nat.zero_le _, rfl, rfl, SV.nil⟩⟩ zz10 ?_ ?_
    ·
     exact fun w h => by
       have h2 : Mem _ _ [.blk b3 60 [.int .u8 (tg.toNat : Int), b10, nl], .blk b2 60 [.int .u8 0, nl, nl], .blk b1 60 [.int .u8 (tg.toNat : Int), bv, lv], .row b10 bs.length 5 1 (v8s bs), .row nl 0 60 3 []] [] w := (h.nilRow 60 3).sel
       exact h2
    ·
     rintro ⟨⟨i, ns, nv⟩, ⟨hi0, hi1, hi2, hi3⟩⟩; try dsimp only
     have hi0 : i ≤ l.length := hi0; have hi1 : ns.length = i := hi1; have hi2 : trs ns = trs (l.take i) := hi2; have hi3 : SV nv ns.length := hi3
     refine wpc_seq <| wpc_seq <| wpc_region <| wpl_q (q_pure rfl) rfl <| wpl_q (q_field Tryz.underlying60 rfl Tryz.ti58 rfl rfl _ rfl) rfl <| wpl_q (q_ld Tryz.underlying58 rfl rfl rfl) rfl ?_
     refine wpl_q (q_lenW Tryz.underlying58 rfl zz5) rfl ?_
     refine wpl_q (q_pure rfl) rfl <| wpl_nil <| ex_then ?_
     refine wpc_cond rfl (fun hc16 => ?_) (fun hc16 => ?_)
     ·
      simp only [decide_eq_true_eq] at hc16
      have hil : i < l.length := by omega
      haveI := (ht.kid hil).sv.one
      have hln := sm_len hsm
      refine wpc_skip <| ex_then <| wpc_seq <| wpc_block ?_
      refine wpc_draw 9 zz8 (fun _ h => h.drew) ?_
      refine wpd_p 0 rfl zz8 trivial (q_field Tryz.underlying60 rfl Tryz.ti58 rfl rfl _ rfl) rfl sk0 ?_
      refine wpd_q 1 rfl zz8 trivial (q_ld Tryz.underlying58 rfl rfl rfl) rfl (fun _ h => h) ?_
      refine wpd_p 2 rfl zz8 trivial (q_field Tryz.underlying60 rfl Tryz.ti58 rfl rfl _ rfl) rfl sk0 ?_
      refine wpd_qB 3 [5, 6, 7, 8, 9] rfl zz8 trivial (q_ld Tryz.underlying58 rfl rfl rfl) rfl (fun _ h => h) ?_
      refine wpd_p 4 rfl zz8 trivial (q_pure rfl) rfl sk0 ?_
      refine wpd_p 5 rfl zz8 trivial (q_idxW Tryz.underlying58 Tryz.ti60 rfl rfl zz5 zz1) rfl sk0 ?_
      refine wpd_qB 6 [7, 8, 9] rfl zz8 trivial (q_ldWN Tryz.underlying60 rfl Tryz.ti60 rfl (fun w h => h.seen_old hk) (l.getD i HT.z).c (cat_part HT.c_length HT.z hil) (HT.c_length _)) rfl (fun _ h => h) ?_
      refine wpd_tp 7 rfl zz8 trivial (t_callE (fun y : HT => .blk b3 60 [.int .u8 (tg.toNat : Int), b10, nv] :: .blk b2 60 [.int .u8 0, nl, nl] :: .blk b1 60 [.int .u8 (tg.toNat : Int), bv, lv] :: .row b10 bs.length 5 1 (v8s bs) :: .row nv ns.length 60 3 (hcs ns) :: (y.ents ++ entsL ns)) (fun y => List.perm_append_comm_assoc y.ents [.blk b3 60 [.int .u8 (tg.toNat : Int), b10, nv], .blk b2 60 [.int .u8 0, nl, nl], .blk b1 60 [.int .u8 (tg.toNat : Int), bv, lv], .row b10 bs.length 5 1 (v8s bs), .row nv ns.length 60 3 (hcs ns)] (entsL ns)) Tryz.hb74 rfl fun w h => ih (l.getD i HT.z) (getD_memH hil) w ((ht.kid hil).old h) (hsm.kid hil)) rfl (fun _ => (fun w h => .inr (h.sub SubC.h SubC.h))) (fun b26 p26 => ?_)
      haveI := p26.2.one
      have sb28 := p26.2
      refine wpd_tp 8 rfl zz8 trivial (t_bsG [.agg b26.c.toArray] b26.c Tryz.underlying58 Tryz.ti60 rfl zz22 rfl zz22 zz22 rfl zz44 (List.append_nil _)) rfl (fun _ => (fun w h => .inr (h.sub SubC.h SubC.h))) (fun b27 p27 => ?_)
      refine wpd_tp 9 rfl zz8 trivial (t_apW Tryz.underlying58 Tryz.ti60 rfl zz22 rfl rfl (fun w h => zz12) OneC.h zz1 zz1 (hcs (ns ++ [b26])) (cat_snoc HT.c ns b26)) rfl (fun _ => skk rfl) (fun b28 p28 => ?_)
      refine wpd_p 10 rfl zz8 trivial (q_field Tryz.underlying60 rfl Tryz.ti58 rfl rfl _ rfl) rfl (skk rfl) ?_
      refine wpd_t0 11 rfl zz8 trivial (t_st1 Tryz.ti58 rfl rfl (SV.one zz5) zz4 [.int .u8 (tg.toNat : Int), b10, b28] rfl) (fun _ => skk rfl) (fun _ => ?_)
      refine wpd_done zz8 ?_
      refine ex_block <| ex_then <| wpc_region <| wpl_q (q_pure rfl) rfl ?_
      refine wpl_q (q_addN (b := 1) rfl rfl zz1) rfl ?_
      refine wpl_q (q_pure rfl) rfl <| wpl_nil ?_
      refine ex_again ⟨(i + 1, ns ++ [b26], b28), ⟨zz16, by rw [snoc_len, hi1], by rw [trs_append, hi2, trs_takeS hil, ← p26.1]; rfl, by rw [snoc_len]; exact p28⟩⟩ ?_ ?_ ?_
      ·
       exact zz10
      ·
       exact fun w h => by
         dsimp only
         rw [snoc_len]
         have h2 := h.sub (M' := .blk b3 60 [.int .u8 (tg.toNat : Int), b10, b28] :: .blk b2 60 [.int .u8 0, nl, nl] :: .blk b1 60 [.int .u8 (tg.toNat : Int), bv, lv] :: .row b10 bs.length 5 1 (v8s bs) :: .row b28 (ns.length + 1) 60 3 (hcs (ns ++ [b26])) :: (b26.ents ++ entsL ns)) (S' := []) SubC.h .nil
         exact h2.perm ((((((entsL_snoc ns b26).cons _).cons _).cons _).cons _).cons _)
      ·
       (show l.length - (i + 1) < l.length - i); omega
     ·
      simp only [decide_eq_false_iff_not] at hc16
      obtain rfl : i = l.length := by omega
      rw [List.take_length] at hi2
      haveI := oneH (t := tg) p10 hi3
      refine wpc_exit ?_
      refine ex_then_exit ?_
      refine ex_then_exit ?_
      refine ex_block_hit ?_
      refine ex_then <| wpc_seq <| wpc_region <| wpl_q (q_ldN Tryz.underlying60 rfl Tryz.ti60 rfl LenC.h) rfl ?_
      refine wpl_t0 (t_stA Tryz.ti60 rfl rfl LenC.h OneC.h LenC.h) (fun _ => ?_)
      refine wpl_nil <| ex_then <| wpc_ret ?_
      refine retv1 (.inl rfl) rfl (rv_agg Tryz.underlying60 rfl Tryz.ti60 rfl (fun w h => h.atB) rfl) ?_
      exact fun w h => ⟨.nd tg b10 bs nv ns, ⟨by show Tr.nd tg bs (trs ns) = Tr.nd tg bs (trs l); rw [hi2], p10, hi3⟩, rfl, h.below, madeT (h.sub SubC.h .nil)⟩
  ·
   refine wpa_t 7 rfl trivial (t_alloc Tryz.ti60 [.int .u8 0, nl, nl] rfl) rfl (fun _ => (fun w h => .inr (h.sub SubC.h SubC.h))) (fun b3 => ?_)
   refine wpd_tp 2 rfl zz8 trivial (t_bs0W Tryz.underlying49 Tryz.ti5) rfl (fun _ => (fun w h => .inr (h.sub SubC.h SubC.h))) (fun b7 p7 => ?_)
   refine wpd_tp 5 rfl zz8 trivial (t_ap0 Tryz.underlying49 Tryz.ti5 rfl zz22 rfl rfl (fun w h => h.seen_old hb) (v8s_one _) zz1 zz1) rfl (fun _ => (fun w h => .inr (h.sub SubC.h SubC.h))) (fun b10 p10 => ?_)
   haveI := oneH (t := tg) p10 SV.nil
   refine wpd_p 6 rfl zz8 trivial (q_build (cs := [.int .u8 (tg.toNat : Int), b10, nl]) rfl (built_o1 tg p10)) rfl (fun w h => .inr (h.sub SubC.h SubC.h)) ?_
   refine wpd_t0 8 rfl zz8 trivial (t_stA Tryz.ti60 rfl rfl LenC.h OneC.h LenC.h) (fun _ => (fun w h => .inr (h.sub SubC.h SubC.h))) (fun _ => ?_)
   refine wpd_done zz8 ?_
   refine ex_then <| wpc_seq <| wpc_seq <| wpc_region <| wpl_q (q_pure rfl) rfl <| wpl_nil <| ex_then <| wpc_block ?_
   refine wpc_loopc (ι := { x : Nat × List HT × Value // (x.1 ≤ l.length) ∧ (x.2.1.length = x.1) ∧ (trs x.2.1 = trs (l.take x.1)) ∧ (SV x.2.2 x.2.1.length) }) [(1, _), (2, _), (3, _)] (fun x Lc => (4, .int .i64 ((x.1.1 : Nat) : Int)) :: Lc) (fun x => Mem w [] (.blk b3 60 [.int .u8 (tg.toNat : Int), b10, x.1.2.2] :: .blk b2 60 [.int .u8 0, nl, nl] :: .blk b1 60 [.int .u8 (tg.toNat : Int), bv, lv] :: .row b10 bs.length 5 1 (v8s bs) :: .row x.1.2.2 x.1.2.1.length 60 3 (hcs x.1.2.1) :: entsL x.1.2.1) []) (fun x => l.length - x.1.1) ⟨(0, [], nl), ⟨Nat.zero_le _, rfl, rfl, SV.nil⟩⟩ zz10 ?_ ?_
   ·
    exact fun w h => by
      have h2 : Mem _ _ [.blk b3 60 [.int .u8 (tg.toNat : Int), b10, nl], .blk b2 60 [.int .u8 0, nl, nl], .blk b1 60 [.int .u8 (tg.toNat : Int), bv, lv], .row b10 bs.length 5 1 (v8s bs), .row nl 0 60 3 []] [] w := (h.nilRow 60 3).sel
      exact h2
   ·
    rintro ⟨⟨i, ns, nv⟩, ⟨hi0, hi1, hi2, hi3⟩⟩; try dsimp only
    have hi0 : i ≤ l.length := hi0; have hi1 : ns.length = i := hi1; have hi2 : trs ns = trs (l.take i) := hi2; have hi3 : SV nv ns.length := hi3
    refine wpc_seq <| wpc_seq <| wpc_region <| wpl_q (q_pure rfl) rfl <| wpl_q (q_field Tryz.underlying60 rfl Tryz.ti58 rfl rfl _ rfl) rfl <| wpl_q (q_ld Tryz.underlying58 rfl rfl rfl) rfl ?_
    refine wpl_q (q_lenW Tryz.underlying58 rfl zz5) rfl ?_
    refine wpl_q (q_pure rfl) rfl <| wpl_nil <| ex_then ?_
    refine wpc_cond rfl (fun hc16 => ?_) (fun hc16 => ?_)
    ·
     simp only [decide_eq_true_eq] at hc16
     have hil : i < l.length := by omega
     haveI := (ht.kid hil).sv.one
     have hln := sm_len hsm
     refine wpc_skip <| ex_then <| wpc_seq <| wpc_block ?_
     refine wpc_draw 9 zz8 (fun _ h => h.drew) ?_
     refine wpd_p 0 rfl zz8 trivial (q_field Tryz.underlying60 rfl Tryz.ti58 rfl rfl _ rfl) rfl sk0 ?_
     refine wpd_q 1 rfl zz8 trivial (q_ld Tryz.underlying58 rfl rfl rfl) rfl (fun _ h => h) ?_
     refine wpd_p 2 rfl zz8 trivial (q_field Tryz.underlying60 rfl Tryz.ti58 rfl rfl _ rfl) rfl sk0 ?_
     refine wpd_qB 3 [5, 6, 7, 8, 9] rfl zz8 trivial (q_ld Tryz.underlying58 rfl rfl rfl) rfl (fun _ h => h) ?_
     refine wpd_p 4 rfl zz8 trivial (q_pure rfl) rfl sk0 ?_
     refine wpd_p 5 rfl zz8 trivial (q_idxW Tryz.underlying58 Tryz.ti60 rfl rfl zz5 zz1) rfl sk0 ?_
     refine wpd_qB 6 [7, 8, 9] rfl zz8 trivial (q_ldWN Tryz.underlying60 rfl Tryz.ti60 rfl (fun w h => h.seen_old hk) (l.getD i HT.z).c (cat_part HT.c_length HT.z hil) (HT.c_length _)) rfl (fun _ h => h) ?_
     refine wpd_tp 7 rfl zz8 trivial (t_callE (fun y : HT => .blk b3 60 [.int .u8 (tg.toNat : Int), b10, nv] :: .blk b2 60 [.int .u8 0, nl, nl] :: .blk b1 60 [.int .u8 (tg.toNat : Int), bv, lv] :: .row b10 bs.length 5 1 (v8s bs) :: .row nv ns.length 60 3 (hcs ns) :: (y.ents ++ entsL ns)) (fun y => List.perm_append_comm_assoc y.ents [.blk b3 60 [.int .u8 (tg.toNat : Int), b10, nv], .blk b2 60 [.int .u8 0, nl, nl], .blk b1 60 [.int .u8 (tg.toNat : Int), bv, lv], .row b10 bs.length 5 1 (v8s bs), .row nv ns.length 60 3 (hcs ns)] (entsL ns)) Tryz.hb74 rfl fun w h => ih (l.getD i HT.z) (getD_memH hil) w ((ht.kid hil).old h) (hsm.kid hil)) rfl (fun _ => (fun w h => .inr (h.sub SubC.h SubC.h))) (fun b26 p26 => ?_)
     haveI := p26.2.one
     have sb28 := p26.2
     refine wpd_tp 8 rfl zz8 trivial (t_bsG [.agg b26.c.toArray] b26.c Tryz.underlying58 Tryz.ti60 rfl zz22 rfl zz22 zz22 rfl zz44 (List.append_nil _)) rfl (fun _ => (fun w h => .inr (h.sub SubC.h SubC.h))) (fun b27 p27 => ?_)
     refine wpd_tp 9 rfl zz8 trivial (t_apW Tryz.underlying58 Tryz.ti60 rfl zz22 rfl rfl (fun w h => zz12) OneC.h zz1 zz1 (hcs (ns ++ [b26])) (cat_snoc HT.c ns b26)) rfl (fun _ => skk rfl) (fun b28 p28 => ?_)
     refine wpd_p 10 rfl zz8 trivial (q_field Tryz.underlying60 rfl Tryz.ti58 rfl rfl _ rfl) rfl (skk rfl) ?_
     refine wpd_t0 11 rfl zz8 trivial (t_st1 Tryz.ti58 rfl rfl (SV.one zz5) zz4 [.int .u8 (tg.toNat : Int), b10, b28] rfl) (fun _ => skk rfl) (fun _ => ?_)
     refine wpd_done zz8 ?_
     refine ex_block <| ex_then <| wpc_region <| wpl_q (q_pure rfl) rfl ?_
     refine wpl_q (q_addN (b := 1) rfl rfl zz1) rfl ?_
     refine wpl_q (q_pure rfl) rfl <| wpl_nil ?_
     refine ex_again ⟨(i + 1, ns ++ [b26], b28), ⟨zz16, by rw [snoc_len, hi1], by rw [trs_append, hi2, trs_takeS hil, ← p26.1]; rfl, by rw [snoc_len]; exact p28⟩⟩ ?_ ?_ ?_
     ·
      exact zz10
     ·
      exact fun w h => by
        dsimp only
        rw [snoc_len]
        have h2 := h.sub (M' := .blk b3 60 [.int .u8 (tg.toNat : Int), b10, b28] :: .blk b2 60 [.int .u8 0, nl, nl] :: .blk b1 60 [.int .u8 (tg.toNat : Int), bv, lv] :: .row b10 bs.length 5 1 (v8s bs) :: .row b28 (ns.length + 1) 60 3 (hcs (ns ++ [b26])) :: (b26.ents ++ entsL ns)) (S' := []) SubC.h .nil
        exact h2.perm ((((((entsL_snoc ns b26).cons _).cons _).cons _).cons _).cons _)
     ·
      (show l.length - (i + 1) < l.length - i); omega
    ·
     simp only [decide_eq_false_iff_not] at hc16
     obtain rfl : i = l.length := by omega
     rw [List.take_length] at hi2
     haveI := oneH (t := tg) p10 hi3
     refine wpc_exit ?_
     refine ex_then_exit ?_
     refine ex_then_exit ?_
     refine ex_block_hit ?_
     refine ex_then <| wpc_seq <| wpc_region <| wpl_q (q_ldN Tryz.underlying60 rfl Tryz.ti60 rfl LenC.h) rfl ?_
     refine wpl_t0 (t_stA Tryz.ti60 rfl rfl LenC.h OneC.h LenC.h) (fun _ => ?_)
     refine wpl_nil <| ex_then <| wpc_ret ?_
     refine retv1 (.inl rfl) rfl (rv_agg Tryz.underlying60 rfl Tryz.ti60 rfl (fun w h => h.atB) rfl) ?_
     exact fun w h => ⟨.nd tg b10 bs nv ns, ⟨by show Tr.nd tg bs (trs ns) = Tr.nd tg bs (trs l); rw [hi2], p10, hi3⟩, rfl, h.below, madeT (h.sub SubC.h .nil)⟩
theorem refTwin : ∀ (t : HT) (w : World), HSeen w.cell? t → Sm t.tr → Calls Tryz.prog 74 [.agg t.c.toArray].toArray w (GivesP w (fun y : HT => y.tr = t.tr ∧ y.sv) (fun y => .agg y.c.toArray) (fun y => y.ents) (fun _ => [])) := by
  intro t
  induction t using HT.ind with
  | _ tg bv bs lv l ih => intro w h hs; exact refTwin_step _ w h hs (fun x hx w hx' hs' => ih x hx w hx' hs')
theorem octTwin_step (t : HT) (w : World) (ht : HSeen w.cell? t) (hsm : Sm t.tr) (ih : ∀ x ∈ t.kids, ∀ (w : World), HSeen w.cell? x → Sm x.tr → Calls Tryz.prog 83 [.agg x.c.toArray].toArray w (GivesP w (fun y : HT => y.tr = x.tr ∧ y.sv) (fun y => .agg y.c.toArray) (fun y => y.ents) (fun _ => []))) :
    Calls Tryz.prog 83 [.agg t.c.toArray].toArray w (GivesP w (fun y : HT => y.tr = t.tr ∧ y.sv) (fun y => .agg y.c.toArray) (fun y => y.ents) (fun _ => [])) := by
  obtain ⟨tg, bv, bs, lv, l⟩ := t
  have hb := ht.1
  have hk := ht.2.1
  have svb := hb.sv
  have svl := hk.sv
  have lb := svb.le
  have ll := svl.le
  simp only [maxLen] at lb ll
  have hln := sm_len hsm
  refine enter (m := 29) (R := Mem w [] [] []) Tryz.func83 rfl rfl (Nat.le_of_ble_eq_true rfl) (Mem.start w) ?_
  refine wpc_seq <| wpc_region ?_
  refine wpl_t (t_box rfl [.int .u8 (tg.toNat : Int), bv, lv] rfl) rfl (fun b1 => ?_)
  refine wpl_t (t_alloc Tryz.ti60 [.int .u8 0, nl, nl] rfl) rfl (fun b2 => ?_)
  refine wpl_nil <| ex_then ?_
  refine wpc_cutc ({ x : Nat × Nat × Value × Value // (SV x.2.2.1 bs.length) ∧ (SV x.2.2.2 l.length) }) [] (fun x Lc => (1, .pointer (some ⟨x.1.1, 0, none⟩)) :: (2, .pointer (some ⟨x.1.2.1, 0, none⟩)) :: Lc) (fun x => Mem w [] [.blk x.1.1 60 [.int .u8 (tg.toNat : Int), x.1.2.2.1, x.1.2.2.2], .blk x.1.2.1 60 [.int .u8 0, nl, nl], .row x.1.2.2.1 bs.length 5 1 (v8s bs), .row x.1.2.2.2 l.length 60 3 (hcs l)] []) ?_ ?_
  ·
   refine wpc_draw 7 zz8 (fun _ h => h.drew) ?_
   refine wpd_p 0 rfl zz8 trivial (q_field Tryz.underlying60 rfl Tryz.ti49 rfl rfl _ rfl) rfl sk0 ?_
   refine wpd_q 1 rfl zz8 trivial (q_ld Tryz.underlying49 rfl rfl rfl) rfl (fun _ h => h) ?_
   refine wpd_p 3 rfl zz8 trivial (q_field Tryz.underlying60 rfl Tryz.ti58 rfl rfl _ rfl) rfl sk0 ?_
   refine wpd_q 4 rfl zz8 trivial (q_ld Tryz.underlying58 rfl rfl rfl) rfl (fun _ h => h) ?_
   refine wpd_tp 2 rfl zz8 trivial (t_callP1 Tryz.hb98 rfl fun w h => cloneB _ bs w (h.seen_old hb) hln.2) rfl (fun _ => (fun w h => .inr (h.sub SubC.h SubC.h))) (fun b7 p7 => ?_)
   refine wpd_p 6 rfl zz8 trivial (q_field Tryz.underlying60 rfl Tryz.ti49 rfl rfl _ rfl) rfl (fun w h => .inr (h.sub SubC.h SubC.h)) ?_
   refine wpd_tp 5 rfl zz8 trivial (t_callP1 Tryz.hb99 rfl fun w h => cloneO _ l w (h.seen_old hk) hln.1 ht.2.2.sv) rfl (fun _ => (fun w h => .inr (h.sub SubC.h SubC.h))) (fun b10 p10 => ?_)
   refine wpd_t0 7 rfl zz8 trivial (t_st1 Tryz.ti49 rfl rfl (SV.one zz5) zz4 [.int .u8 (tg.toNat : Int), b7, lv] rfl) (fun _ => skk rfl) (fun _ => ?_)
   refine wpd_p 8 rfl zz8 trivial (q_field Tryz.underlying60 rfl Tryz.ti58 rfl rfl _ rfl) rfl (skk rfl) ?_
   refine wpd_t0 9 rfl zz8 trivial (t_st1 Tryz.ti58 rfl rfl (SV.one zz5) zz4 [.int .u8 (tg.toNat : Int), b7, b10] rfl) (fun _ => skk rfl) (fun _ => ?_)
   refine wpd_done zz8 ?_
   refine ex_mid ⟨(b1, b2, b7, b10), ⟨p7, p10⟩⟩ ?_ ?_
   ·
    exact zz10
   ·
    exact fun w h => by dsimp only; exact h.sel
  ·
   rintro ⟨⟨b1, b2, nb, nv⟩, ⟨hi0, hi1⟩⟩; try dsimp only
   have hi0 : SV nb bs.length := hi0; have hi1 : SV nv l.length := hi1
   have snb : SV nb bs.length := hi0
   have snv : SV nv l.length := hi1
   haveI := oneH (t := tg) snb snv
   refine wpc_seq <| wpc_seq <| wpc_region <| wpl_q (q_field Tryz.underlying60 rfl Tryz.ti58 rfl rfl _ rfl) rfl <| wpl_q (q_ld Tryz.underlying58 rfl rfl rfl) rfl ?_
   refine wpl_q (q_lenW Tryz.underlying58 rfl zz5) rfl ?_
   refine wpl_q (q_pure rfl) rfl <| wpl_nil <| ex_then <| wpc_block ?_
   refine wpc_loopc (ι := { x : Nat × List HT // (x.1 ≤ l.length) ∧ (x.2.length = x.1) ∧ (trs x.2 = trs (l.take x.1)) }) [(1, _), (2, _), (14, _), (15, _)] (fun x Lc => (16, .int .i64 ((x.1.1 : Nat) : Int)) :: Lc) (fun x => Mem w [] (.blk b1 60 [.int .u8 (tg.toNat : Int), nb, nv] :: .blk b2 60 [.int .u8 0, nl, nl] :: .row nb bs.length 5 1 (v8s bs) :: .row nv l.length 60 3 (hcs (x.1.2 ++ l.drop x.1.1)) :: entsL x.1.2) []) (fun x => l.length - x.1.1) ⟨(0, []), ⟨Nat.zero_le _, rfl, rfl⟩⟩ zz10 ?_ ?_
   ·
    exact fun w h => h
   ·
    rintro ⟨⟨i, ns⟩, ⟨hi0, hi1, hi2⟩⟩; try dsimp only
    have hi0 : i ≤ l.length := hi0; have hi1 : ns.length = i := hi1; have hi2 : trs ns = trs (l.take i) := hi2
    refine wpc_seq <| wpc_region <| wpl_q (q_pure rfl) rfl <| wpl_nil <| ex_then <| wpc_seq ?_
    refine wpc_cond rfl (fun hc17 => ?_) (fun hc17 => ?_)
    ·
     simp only [decide_eq_true_eq] at hc17
     have hil : i < l.length := by omega
     haveI := (ht.kid hil).sv.one
     have hin : i < (ns ++ l.drop i).length := by rw [List.length_append, List.length_drop]; omega
     refine wpc_skip <| ex_then <| wpc_seq <| wpc_block <| wpc_seq <| wpc_region <| wpl_q (q_pure rfl) rfl ?_
     refine wpl_q (q_idxW Tryz.underlying58 Tryz.ti60 rfl rfl zz5 zz1) rfl ?_
     refine wpl_q (q_ldWN Tryz.underlying60 rfl Tryz.ti60 rfl (fun w h => h.seenV) (l.getD i HT.z).c (by rw [cat_part HT.c_length HT.z hin, tw_get hi1 hil]) (HT.c_length _)) rfl ?_
     refine wpl_t (t_alloc Tryz.ti60 [.int .u8 0, nl, nl] rfl) rfl (fun b4 => ?_)
     refine wpl_q (q_pure rfl) rfl ?_
     refine wpl_t0 (t_stA Tryz.ti60 rfl rfl LenC.h OneC.h LenC.h) (fun _ => ?_)
     refine wpl_nil <| ex_then ?_
     refine wpc_draw 6 zz8 (fun _ h => h.drew) ?_
     refine wpd_p 0 rfl zz8 trivial (q_field Tryz.underlying60 rfl Tryz.ti58 rfl rfl _ rfl) rfl sk0 ?_
     refine wpd_q 1 rfl zz8 trivial (q_ld Tryz.underlying58 rfl rfl rfl) rfl (fun _ h => h) ?_
     refine wpd_p 2 rfl zz8 trivial (q_pure rfl) rfl sk0 ?_
     refine wpd_q 3 rfl zz8 trivial (q_ldN Tryz.underlying60 rfl Tryz.ti60 rfl LenC.h) rfl (fun _ h => h) ?_
     refine wpd_tp 4 rfl zz8 trivial (t_callE (fun y : HT => .blk b4 60 (l.getD i HT.z).c :: .blk b1 60 [.int .u8 (tg.toNat : Int), nb, nv] :: .blk b2 60 [.int .u8 0, nl, nl] :: .row nb bs.length 5 1 (v8s bs) :: .row nv l.length 60 3 (hcs (ns ++ l.drop i)) :: (y.ents ++ entsL ns)) (fun y => List.perm_append_comm_assoc y.ents [.blk b4 60 (l.getD i HT.z).c, .blk b1 60 [.int .u8 (tg.toNat : Int), nb, nv], .blk b2 60 [.int .u8 0, nl, nl], .row nb bs.length 5 1 (v8s bs), .row nv l.length 60 3 (hcs (ns ++ l.drop i))] (entsL ns)) Tryz.hb83 rfl fun w h => ih (l.getD i HT.z) (getD_memH hil) w ((ht.kid hil).old h) (hsm.kid hil)) rfl (fun _ => (fun w h => .inr (h.sub SubC.h SubC.h))) (fun b25 p25 => ?_)
     haveI := p25.2.one
     refine wpd_p 5 rfl zz8 trivial (q_idxW Tryz.underlying58 Tryz.ti60 rfl rfl zz5 zz1) rfl (fun w h => .inr (h.sub SubC.h SubC.h)) ?_
     refine wpd_t0 6 rfl zz8 trivial (t_stWN (vs := b25.c) Tryz.ti60 rfl rfl rfl (HT.c_length _) OneC.h (by rw [HT.c_length, cat_len HT.c_length, List.length_append, List.length_drop]; omega) (by rw [cat_len HT.c_length, List.length_append, List.length_drop]; omega) (hcs (ns ++ [b25] ++ l.drop (i + 1))) (tw_put hi1 hil b25)) (fun _ => skk rfl) (fun _ => ?_)
     refine wpd_done zz8 ?_
     refine ex_block <| ex_then <| wpc_region ?_
     refine wpl_q (q_addN (b := 1) rfl rfl zz1) rfl ?_
     refine wpl_q (q_pure rfl) rfl <| wpl_nil ?_
     refine ex_again ⟨(i + 1, ns ++ [b25]), ⟨zz16, by rw [snoc_len, hi1], by rw [trs_append, hi2, trs_takeS hil, ← p25.1]; rfl⟩⟩ ?_ ?_ ?_
     ·
      exact zz10
     ·
      exact fun w h => by
        dsimp only
        have h2 := h.sub (M' := .blk b1 60 [.int .u8 (tg.toNat : Int), nb, nv] :: .blk b2 60 [.int .u8 0, nl, nl] :: .row nb bs.length 5 1 (v8s bs) :: .row nv l.length 60 3 (hcs (ns ++ [b25] ++ l.drop (i + 1))) :: (b25.ents ++ entsL ns)) (S' := []) SubC.h .nil
        exact h2.perm (((((entsL_snoc ns b25).cons _).cons _).cons _).cons _)
     ·
      (show l.length - (i + 1) < l.length - i); omega
    ·
     simp only [decide_eq_false_iff_not] at hc17
     obtain rfl : i = l.length := by omega
     rw [List.take_length] at hi2
     refine wpc_exit ?_
     refine ex_then_exit ?_
     refine ex_then_exit ?_
     refine ex_block_hit ?_
     refine ex_then <| wpc_seq <| wpc_region <| wpl_q (q_ldN Tryz.underlying60 rfl Tryz.ti60 rfl LenC.h) rfl ?_
     refine wpl_t0 (t_stA Tryz.ti60 rfl rfl LenC.h OneC.h LenC.h) (fun _ => ?_)
     refine wpl_nil <| ex_then <| wpc_ret ?_
     refine retv1 (.inl rfl) rfl (rv_agg Tryz.underlying60 rfl Tryz.ti60 rfl (fun w h => h.atB) rfl) ?_
     exact fun w h => ⟨.nd tg nb bs nv ns, ⟨by show Tr.nd tg bs (trs ns) = Tr.nd tg bs (trs l); rw [hi2], snb, by rw [hi1]; exact snv⟩, rfl, h.below, by rw [List.drop_length, List.append_nil, ← hi1] at h; exact madeT (h.sub SubC.h .nil)⟩
theorem octTwin : ∀ (t : HT) (w : World), HSeen w.cell? t → Sm t.tr → Calls Tryz.prog 83 [.agg t.c.toArray].toArray w (GivesP w (fun y : HT => y.tr = t.tr ∧ y.sv) (fun y => .agg y.c.toArray) (fun y => y.ents) (fun _ => [])) := by
  intro t
  induction t using HT.ind with
  | _ tg bv bs lv l ih => intro w h hs; exact octTwin_step _ w h hs (fun x hx w hx' hs' => ih x hx w hx' hs')
end Go.Proofs.YtgnablliekgbgaaGreatDoor
namespace Go.Proofs.YtgnablliekgbgaaGreatDoor
open Go Go.PL Go.RowKit
section
variable {P : Program} {n : Cx} {R : World → Prop} {L : Slots}
theorem q64_quo {t t' : TypeId} {x y : Operand} {a b : UInt64} (hx : ev L x = some (.int .u64 a.toNat)) (hy : ev L y = some (.int .u64 b.toNat)) (h0 : b.toNat ≠ 0) : QOp P n R L (.binOp .quo t x y t') (.int .u64 (a / b).toNat) := by
  have := q_quo (P := P) (n := n) (R := R) (t := t) (t' := t') hx hy zz16
  have e : wk .u64 ((a.toNat : Int).tdiv b.toNat) = ((a / b).toNat : Nat) := by
    have h1 := (a / b).toNat_lt
    rw [UInt64.toNat_div] at h1 ⊢
    have h3 : ((a.toNat : Int).tdiv b.toNat) = ((a.toNat / b.toNat : Nat) : Int) := rfl
    rw [h3]; clear h3 this
    generalize a.toNat / b.toNat = q at *
    simp only [wk]; omega
  rwa [e] at this
theorem q64_rem {t t' : TypeId} {x y : Operand} {a b : UInt64} (hx : ev L x = some (.int .u64 a.toNat)) (hy : ev L y = some (.int .u64 b.toNat)) (h0 : b.toNat ≠ 0) : QOp P n R L (.binOp .rem t x y t') (.int .u64 (a % b).toNat) := by
  have := q_rem (P := P) (n := n) (R := R) (t := t) (t' := t') hx hy zz16
  rw [UInt64.toNat_mod]
  exact this
end
theorem of8_mod (n : Nat) : of8 (((n % 256 : Nat) : Nat) : Int) = of8 ((n : Nat) : Int) := by
  apply UInt8.toNat_inj.1
  have h1 := of8_toNat ((n % 256 : Nat) : Int)
  have h2 := of8_toNat ((n : Nat) : Int)
  omega
def numK : Nat → Nat → List UInt8
  | 0, _ => []
  | k + 1, n => numK k (n / 256) ++ [of8 ((n % 256 : Nat) : Int)]
theorem numK_len : ∀ (k n : Nat), (numK k n).length = k
  | 0, _ => rfl
  | k + 1, n => by rw [numK, List.length_append, numK_len k]; rfl
def kB (n : Nat) : Nat := (lenF n + 7) / 8
def numB (n : Nat) : List UInt8 := numK (kB n) n
theorem kB_step {n : Nat} (h : n ≠ 0) : kB n = kB (n / 256) + 1 := by
  unfold kB
  by_cases h2 : 256 ≤ n
  · rw [lenF_shift 8 n h2]
    show (8 + lenF (n / 256) + 7) / 8 = _
    omega
  · have h1 := lenF_le (m := 8) (n := n) zz16
    have h3 := lenF_step h
    have e : n / 256 = 0 := by omega
    rw [e]
    show _ = 0 + 1
    omega
theorem numB_step {n : Nat} (h : n ≠ 0) : numB n = numB (n / 256) ++ [of8 ((n % 256 : Nat) : Int)] := by
  unfold numB
  rw [kB_step h]; rfl
theorem kB_le {n : Nat} (h : n < 2 ^ 64) : kB n ≤ 8 := by
  have := lenF_le h
  unfold kB; omega
theorem numB_len {n : Nat} (h : n < 2 ^ 64) : (numB n).length ≤ 8 := by rw [numB, numK_len]; exact kB_le h
theorem div_pow (n i : Nat) : n / 2 ^ (8 * (i + 1)) = n / 2 ^ (8 * i) / 256 := by
  rw [Nat.div_div_eq_div_mul, show 8 * (i + 1) = 8 * i + 8 from zz16, Nat.pow_add]
theorem num_step (n k s : Nat) (hs : 1 ≤ s) (hk : s ≤ k) : numK (k - (s - 1)) (n / 2 ^ (8 * (s - 1))) = numK (k - s) (n / 2 ^ (8 * s)) ++ [of8 ((n / 2 ^ (8 * (s - 1)) : Nat) : Int)] := by
  obtain ⟨m, rfl⟩ : ∃ m, s = m + 1 := ⟨s - 1, zz16⟩
  rw [show k - (m + 1 - 1) = (k - (m + 1)) + 1 from zz16, numK, Nat.add_sub_cancel, ← div_pow]
  congr 2
  exact of8_mod _
theorem numK_all (n : Nat) : numK (kB n - kB n) (n / 2 ^ (8 * kB n)) = [] := by rw [Nat.sub_self]; rfl
theorem refBytes_step (z : UInt64) (w : World)  (ih : ∀ (y : UInt64) (w : World), y.toNat < z.toNat → Calls Tryz.prog 73 [.int .u64 (y.toNat : Int)].toArray w (GivesP w (fun v : Value => SV v (numB y.toNat).length) (fun v => v) (fun v => [.row v (numB y.toNat).length 5 1 (v8s (numB y.toNat))]) (fun _ => []))) :
    Calls Tryz.prog 73 [.int .u64 z.toNat].toArray w (GivesP w (fun v : Value => SV v (numB z.toNat).length) (fun v => v) (fun v => [.row v (numB z.toNat).length 5 1 (v8s (numB z.toNat))]) (fun _ => [])) := by
  refine enter (m := 13) (R := Mem w [] [] []) Tryz.func73 rfl rfl (Nat.le_of_ble_eq_true rfl) (Mem.start w) ?_
  refine wpc_seq <| wpc_region <| wpl_q (q_pure rfl) rfl <| wpl_nil <| ex_then <| wpc_seq <| wpc_seq <| wpc_region <| wpl_q (q_pure rfl) rfl ?_
  refine wpl_q (q64_eql (b := (0 : UInt64)) rfl rfl) rfl ?_
  refine wpl_nil <| ex_then ?_
  refine wpc_cond rfl (fun hc4 => ?_) (fun hc4 => ?_)
  ·
   have hx : z = 0 := by simpa using hc4
   subst hx
   refine wpc_seq <| wpc_region <| wpl_q (q_pure rfl) rfl <| wpl_nil <| ex_then <| wpc_ret ?_
   refine ex_then_ret ?_
   refine ret1 (.inl rfl) rfl rfl ?_
   exact fun w h => ⟨nl, SV.nil, rfl, h.below, (h.nilRow 5 1).made zz6 .nil⟩
  ·
   have hx : z ≠ 0 := by simpa using hc4
   have hxn : z.toNat ≠ 0 := fun e => hx (UInt64.toNat_inj.1 (by rw [e]; rfl))
   have hd : (z / 256).toNat = z.toNat / 256 := UInt64.toNat_div z 256
   have hm : (z % 256).toNat = z.toNat % 256 := UInt64.toNat_mod z 256
   have hlx := numB_len z.toNat_lt
   have hlt := z.toNat_lt
   have hlq := numB_len (z / 256).toNat_lt
   refine wpc_skip <| ex_then <| wpc_seq <| wpc_region <| wpl_q (q_pure rfl) rfl ?_
   refine wpl_q (q64_quo (b := (256 : UInt64)) rfl rfl zz22) rfl ?_
   refine wpl_tp (t_callP1 Tryz.hb73 rfl fun w h => ih _ w (by rw [hd]; omega)) rfl (fun b7 p7 => ?_)
   refine wpl_q (q_pure rfl) rfl ?_
   refine wpl_q (q64_rem (b := (256 : UInt64)) rfl rfl zz22) rfl ?_
   refine wpl_q (q8_conv Tryz.underlying22 Tryz.underlying5 rfl) rfl ?_
   refine wpl_tp (t_bsV (v8s [_]) Tryz.underlying49 Tryz.ti5 rfl rfl zz22 zz22 rfl (v8s_one _)) rfl (fun b11 p11 => ?_)
   refine wpl_tp (t_apW Tryz.underlying49 Tryz.ti5 rfl zz22 rfl rfl (fun w h => zz12) (v8s_one _) zz1 zz1 (v8s (numB z.toNat)) (by rw [numB_step hxn, hd, hm]; exact (v8s_append _ _).symm)) rfl (fun b12 p12 => ?_)
   refine wpl_q (q_pure rfl) rfl <| wpl_nil <| ex_then <| wpc_ret ?_
   refine ret1 (.inl rfl) rfl rfl ?_
   have hle : (numB z.toNat).length = (numB (z / 256).toNat).length + 1 := by rw [numB_step hxn, ← hd, List.length_append]; rfl
   exact fun w h => ⟨b12, by rw [hle]; exact p12, rfl, h.below, by rw [hle]; exact h.made SubC.h .nil⟩
theorem refBytesG : ∀ (n : Nat) (z : UInt64) (w : World), z.toNat < n → Calls Tryz.prog 73 [.int .u64 (z.toNat : Int)].toArray w (GivesP w (fun v : Value => SV v (numB z.toNat).length) (fun v => v) (fun v => [.row v (numB z.toNat).length 5 1 (v8s (numB z.toNat))]) (fun _ => []))
  | 0, _, _, h => by omega
  | n + 1, z, w, h => refBytes_step z w (fun y w hy => refBytesG n y w zz16)
theorem refBytes (z : UInt64) (w : World) : Calls Tryz.prog 73 [.int .u64 (z.toNat : Int)].toArray w (GivesP w (fun v : Value => SV v (numB z.toNat).length) (fun v => v) (fun v => [.row v (numB z.toNat).length 5 1 (v8s (numB z.toNat))]) (fun _ => [])) := refBytesG _ z w (Nat.lt_succ_self _)
theorem seen_nil (r : Rd) (t : TypeId) (sz : Nat) : Seen r (.slice none 0 0) 0 sz [] := ⟨zz47, none, 0, rfl, Nat.le_refl _, zz22, .inl ⟨rfl, rfl⟩⟩
theorem made_str {w0 w : World} {M : List Ent} {S : List Fact} {tg : UInt8} {b : Value} {bs : List UInt8} (h : Mem w0 [] M (Go.PL.seen b bs.length 1 (v8s bs) :: S) w) : New w0.heap.size [] [Go.Proofs.YtgnablliekgbgaaGreatDoor.hseen (.nd tg b bs nl [])] w :=
  (h.imp (T := [Go.Proofs.YtgnablliekgbgaaGreatDoor.hseen (.nd tg b bs nl [])]) fun r hs f hf => by
    rw [List.mem_singleton] at hf; subst hf
    exact ⟨hs _ (List.mem_cons_self ..), seen_nil _ 60 3, trivial⟩).made .nil (Sub.refl _)
theorem octNum (tg : UInt8) (z : UInt64) (w : World)   :
    Calls Tryz.prog 55 [.int .u8 tg.toNat, .int .u64 z.toNat].toArray w (GivesP w (fun y : HT => y.tr = Tr.nd tg (numB z.toNat) [] ∧ y.sv) (fun y => .agg y.c.toArray) (fun y => y.ents) (fun _ => [])) := by
  have hkx := kB_le z.toNat_lt
  have hlx := lenF_le (m := 64) z.toNat_lt
  have hkd : (lenF z.toNat + 7) / 8 = kB z.toNat := rfl
  refine enter (m := 29) (R := Mem w [] [] []) Tryz.func55 rfl rfl (Nat.le_of_ble_eq_true rfl) (Mem.start w) ?_
  refine wpc_seq <| wpc_region ?_
  refine wpl_t (t_alloc Tryz.ti60 [.int .u8 0, nl, nl] rfl) rfl (fun b4 => ?_)
  refine wpl_nil <| ex_then <| wpc_seq <| wpc_region <| wpl_q (q_pure rfl) rfl ?_
  refine wpl_q (q_build (cs := [.int .u8 (tg.toNat : Int), nl, nl]) rfl (built_o0 tg)) rfl ?_
  refine wpl_t (t_alloc Tryz.ti60 [.int .u8 0, nl, nl] rfl) rfl (fun b5 => ?_)
  refine wpl_t0 (t_stA Tryz.ti60 rfl rfl LenC.h OneC.h LenC.h) (fun _ => ?_)
  refine wpl_nil <| ex_then <| wpc_seq <| wpc_seq <| wpc_region <| wpl_q (q_pure rfl) rfl ?_
  refine wpl_t (t_pur (v := .int .i64 ((lenF z.toNat : Nat) : Int)) Tryz.hb84 rfl fun w h => len64 z w) rfl (fun b10 => ?_)
  refine wpl_q (q_addN (b := 7) rfl rfl zz1) rfl ?_
  refine wpl_q (q_quoN (b := 8) rfl rfl zz26 zz1) rfl ?_
  refine wpl_q (q_pure rfl) rfl <| wpl_nil <| ex_then <| wpc_block ?_
  refine wpc_loopc (ι := { x : Nat × Value // (x.1 ≤ kB z.toNat) ∧ (SV x.2 (kB z.toNat - x.1)) }) [(1, _), (4, _), (5, _)] (fun x Lc => (6, .int .i64 ((x.1.1 : Nat) : Int)) :: Lc) (fun x => Mem w [] [.blk b4 60 [.int .u8 0, nl, nl], .blk b5 60 [.int .u8 (tg.toNat : Int), x.1.2, nl], .row x.1.2 (kB z.toNat - x.1.1) 5 1 (v8s (numK (kB z.toNat - x.1.1) (z.toNat / 2 ^ (8 * x.1.1))))] []) (fun x => x.1.1) ⟨(kB z.toNat, nl), ⟨Nat.le_refl _, by rw [Nat.sub_self]; exact SV.nil⟩⟩ zz10 ?_ ?_
  ·
   exact fun w h => by
     dsimp only
     rw [numK_all, Nat.sub_self]
     have h2 : Mem _ _ [.blk b4 60 [.int .u8 0, nl, nl], .blk b5 60 [.int .u8 (tg.toNat : Int), nl, nl], .row nl 0 5 1 []] [] w := (h.nilRow 5 1).sel
     exact h2
  ·
   rintro ⟨⟨s, nb⟩, ⟨hi0, hi1⟩⟩; try dsimp only
   have hi0 : s ≤ kB z.toNat := hi0; have hi1 : SV nb (kB z.toNat - s) := hi1
   refine wpc_seq <| wpc_seq <| wpc_region <| wpl_q (q_pure rfl) rfl <| wpl_q (q_pure rfl) rfl <| wpl_nil <| ex_then ?_
   refine wpc_cond rfl (fun hc14 => ?_) (fun hc14 => ?_)
   ·
    simp only [decide_eq_true_eq] at hc14
    have hs1 : 1 ≤ s := by omega
    refine wpc_skip <| ex_then <| wpc_seq <| wpc_block ?_
    refine wpc_draw 9 zz8 (fun _ h => h.drew) ?_
    refine wpd_p 0 rfl zz8 trivial (q_field Tryz.underlying60 rfl Tryz.ti49 rfl rfl _ rfl) rfl sk0 ?_
    refine wpd_q 1 rfl zz8 trivial (q_ld Tryz.underlying49 rfl rfl rfl) rfl (fun _ h => h) ?_
    refine wpd_p 2 rfl zz8 trivial (q_pure rfl) rfl sk0 ?_
    refine wpd_p 3 rfl zz8 trivial (q_pure rfl) rfl sk0 ?_
    refine wpd_p 4 rfl zz8 trivial (q_subN (b := 1) rfl rfl zz16 zz1) rfl sk0 ?_
    refine wpd_p 5 rfl zz8 trivial (q_mulN (a := 8) rfl rfl zz1) rfl sk0 ?_
    refine wpd_p 6 rfl zz8 trivial (q64_shr rfl rfl zz26 _ rfl) rfl sk0 ?_
    refine wpd_p 7 rfl zz8 trivial (q8_conv Tryz.underlying22 Tryz.underlying5 rfl) rfl sk0 ?_
    refine wpd_tp 8 rfl zz8 trivial (t_bsV (v8s [_]) Tryz.underlying49 Tryz.ti5 rfl rfl zz22 zz22 rfl (v8s_one _)) rfl (fun _ => (fun w h => .inr (h.sub SubC.h SubC.h))) (fun b25 p25 => ?_)
    refine wpd_tp 9 rfl zz8 trivial (t_apW Tryz.underlying49 Tryz.ti5 rfl zz22 rfl rfl (fun w h => zz12) OneC.h zz1 zz1 (v8s (numK (kB z.toNat - (s - 1)) (z.toNat / 2 ^ (8 * (s - 1))))) (by rw [← v8s_append, num_step _ _ s hs1 hi0]; congr 3; exact congrArg (fun n : Nat => of8 (n : Int)) (sr64_nat z (8 * (s - 1)) zz16))) rfl (fun _ => skk rfl) (fun b26 p26 => ?_)
    refine wpd_p 10 rfl zz8 trivial (q_field Tryz.underlying60 rfl Tryz.ti49 rfl rfl _ rfl) rfl (skk rfl) ?_
    refine wpd_t0 11 rfl zz8 trivial (t_st1 Tryz.ti49 rfl rfl (SV.one zz5) zz4 [.int .u8 (tg.toNat : Int), b26, nl] rfl) (fun _ => skk rfl) (fun _ => ?_)
    refine wpd_done zz8 ?_
    refine ex_block <| ex_then <| wpc_region <| wpl_q (q_pure rfl) rfl ?_
    refine wpl_q (q_subN (b := 1) rfl rfl zz16 zz1) rfl ?_
    refine wpl_q (q_pure rfl) rfl <| wpl_nil ?_
    refine ex_again ⟨(s - 1, b26), ⟨zz16, by show SV b26 (kB z.toNat - (s - 1)); rw [show kB z.toNat - (s - 1) = (kB z.toNat - s) + 1 from zz16]; exact p26⟩⟩ ?_ ?_ ?_
    ·
     exact zz10
    ·
     exact fun w h => by
       dsimp only
       rw [show (kB z.toNat - s) + 1 = kB z.toNat - (s - 1) from zz16] at h
       exact h.sel
    ·
     (show (s - 1) < s); omega
   ·
    simp only [decide_eq_false_iff_not] at hc14
    obtain rfl : s = 0 := by omega
    haveI := oneH (t := tg) hi1 SV.nil
    refine wpc_exit ?_
    refine ex_then_exit ?_
    refine ex_then_exit ?_
    refine ex_block_hit ?_
    refine ex_then <| wpc_seq <| wpc_region <| wpl_q (q_ldN Tryz.underlying60 rfl Tryz.ti60 rfl LenC.h) rfl ?_
    refine wpl_t0 (t_stA Tryz.ti60 rfl rfl LenC.h OneC.h LenC.h) (fun _ => ?_)
    refine wpl_nil <| ex_then <| wpc_ret ?_
    refine retv1 (.inl rfl) rfl (rv_agg Tryz.underlying60 rfl Tryz.ti60 rfl (fun w h => h.atB) zz0) ?_
    exact fun w1 h => by
      rw [show z.toNat / 2 ^ (8 * 0) = z.toNat from Nat.div_one _, Nat.sub_zero, show numK (kB z.toNat) z.toNat = numB z.toNat from rfl] at h
      have hl : (numB z.toNat).length = kB z.toNat := numK_len _ _
      have h2 : Mem w [] [.row nb (numB z.toNat).length 5 1 (v8s (numB z.toNat)), .row nl 0 60 3 (hcs [])] [] w1 := by rw [hl]; have h3 : Mem w [] [.row nb (kB z.toNat) 5 1 (v8s (numB z.toNat)), .row nl 0 60 3 []] [] w1 := (h.nilRow 60 3).sel; exact h3
      exact ⟨.nd tg nb (numB z.toNat) nl [], ⟨rfl, by rw [hl]; exact hi1, SV.nil⟩, rfl, h.below, madeT h2⟩
theorem refNum (tg : UInt8) (z : UInt64) (w : World)   :
    Calls Tryz.prog 42 [.int .u8 tg.toNat, .int .u64 z.toNat].toArray w (GivesP w (fun y : HT => y.tr = Tr.nd tg (numB z.toNat) [] ∧ y.sv) (fun y => .agg y.c.toArray) (fun y => y.ents) (fun _ => [])) := by
  refine enter (m := 9) (R := Mem w [] [] []) Tryz.func42 rfl rfl (Nat.le_of_ble_eq_true rfl) (Mem.start w) ?_
  refine wpc_seq <| wpc_region ?_
  refine wpl_t (t_alloc Tryz.ti60 [.int .u8 0, nl, nl] rfl) rfl (fun b4 => ?_)
  refine wpl_nil <| ex_then <| wpc_seq <| wpc_region <| wpl_q (q_pure rfl) rfl <| wpl_q (q_pure rfl) rfl ?_
  refine wpl_tp (t_callP1 Tryz.hb73 rfl fun w h => refBytes z w) rfl (fun b7 p7 => ?_)
  haveI := oneH (t := tg) p7 SV.nil
  refine wpl_q (q_build (cs := [.int .u8 (tg.toNat : Int), b7, nl]) rfl (built_o1 tg p7)) rfl ?_
  refine wpl_t0 (t_stA Tryz.ti60 rfl rfl LenC.h OneC.h LenC.h) (fun _ => ?_)
  refine wpl_nil <| ex_then <| wpc_ret ?_
  refine retv1 (.inl rfl) rfl (rv_agg Tryz.underlying60 rfl Tryz.ti60 rfl (fun w h => h.atB) zz0) ?_
  exact fun w1 h => by
    have h2 : Mem w [] [.row b7 (numB z.toNat).length 5 1 (v8s (numB z.toNat)), .row nl 0 60 3 []] [] w1 := (h.nilRow 60 3).sel
    exact ⟨.nd tg b7 (numB z.toNat) nl [], ⟨rfl, p7, SV.nil⟩, rfl, h.below, madeT h2⟩
theorem octStr (tg : UInt8) (bs : List UInt8) (w : World)  (hl : bs.length ≤ maxLen) :
    Calls Tryz.prog 54 [.int .u8 tg.toNat, str bs].toArray w (GivesP w (fun y : HT => y.tr = Tr.nd tg bs [] ∧ y.sv) (fun y => .agg y.c.toArray) (fun _ => []) (fun y => [Go.Proofs.YtgnablliekgbgaaGreatDoor.hseen y])) := by
  refine enter (m := 9) (R := Mem w [] [] []) Tryz.func54 rfl rfl (Nat.le_of_ble_eq_true rfl) (Mem.start w) ?_
  refine wpc_seq <| wpc_region ?_
  refine wpl_t (t_alloc Tryz.ti60 [.int .u8 0, nl, nl] rfl) rfl (fun b4 => ?_)
  refine wpl_nil <| ex_then <| wpc_seq <| wpc_region <| wpl_q (q_pure rfl) rfl <| wpl_q (q_pure rfl) rfl ?_
  refine wpl_tp (t_cvSB Tryz.underlying9 Tryz.underlying49 Tryz.underlying5 rfl hl) rfl (fun b7 p7 => ?_)
  haveI := oneH (t := tg) p7 SV.nil
  refine wpl_q (q_build (cs := [.int .u8 (tg.toNat : Int), b7, nl]) rfl (built_o1 tg p7)) rfl ?_
  refine wpl_t0 (t_stA Tryz.ti60 rfl rfl LenC.h OneC.h LenC.h) (fun _ => ?_)
  refine wpl_nil <| ex_then <| wpc_ret ?_
  refine retv1 (.inl rfl) rfl (rv_agg Tryz.underlying60 rfl Tryz.ti60 rfl (fun w h => h.atB) zz0) ?_
  exact fun w1 h => ⟨.nd tg b7 bs nl [], ⟨rfl, p7, SV.nil⟩, rfl, h.below, made_str h⟩
theorem refStr (tg : UInt8) (bs : List UInt8) (w : World)  (hl : bs.length ≤ maxLen) :
    Calls Tryz.prog 44 [.int .u8 tg.toNat, str bs].toArray w (GivesP w (fun y : HT => y.tr = Tr.nd tg bs [] ∧ y.sv) (fun y => .agg y.c.toArray) (fun _ => []) (fun y => [Go.Proofs.YtgnablliekgbgaaGreatDoor.hseen y])) := by
  refine enter (m := 9) (R := Mem w [] [] []) Tryz.func44 rfl rfl (Nat.le_of_ble_eq_true rfl) (Mem.start w) ?_
  refine wpc_seq <| wpc_region ?_
  refine wpl_t (t_alloc Tryz.ti60 [.int .u8 0, nl, nl] rfl) rfl (fun b4 => ?_)
  refine wpl_nil <| ex_then <| wpc_seq <| wpc_region <| wpl_q (q_pure rfl) rfl <| wpl_q (q_pure rfl) rfl ?_
  refine wpl_tp (t_cvSB Tryz.underlying9 Tryz.underlying49 Tryz.underlying5 rfl hl) rfl (fun b7 p7 => ?_)
  haveI := oneH (t := tg) p7 SV.nil
  refine wpl_q (q_build (cs := [.int .u8 (tg.toNat : Int), b7, nl]) rfl (built_o1 tg p7)) rfl ?_
  refine wpl_t0 (t_stA Tryz.ti60 rfl rfl LenC.h OneC.h LenC.h) (fun _ => ?_)
  refine wpl_nil <| ex_then <| wpc_ret ?_
  refine retv1 (.inl rfl) rfl (rv_agg Tryz.underlying60 rfl Tryz.ti60 rfl (fun w h => h.atB) zz0) ?_
  exact fun w1 h => ⟨.nd tg b7 bs nl [], ⟨rfl, p7, SV.nil⟩, rfl, h.below, made_str h⟩
end Go.Proofs.YtgnablliekgbgaaGreatDoor
namespace Go.Proofs.YtgnablliekgbgaaGreatDoor
open Go Go.PL Go.RowKit
def Tr.tg : Tr → UInt8 | .nd t _ _ => t
def Tr.bs : Tr → List UInt8 | .nd _ bs _ => bs
def Tr.kids : Tr → List Tr | .nd _ _ l => l
theorem sub_left {α : Type} : ∀ (l X : List α), Sub l (l ++ X)
  | [], _ => .nil
  | _ :: l, X => .keep (sub_left l X)
section
variable {P : Program} {n : Cx} {R : World → Prop} {L : Slots}
end
theorem octSeq (tg : UInt8) (lv : Value) (l : List HT) (w : World) (hlv : Seen w.cell? lv l.length 3 (hcs l)) (hhl : HSeenL w.cell? l) (hsm : Sm (Tr.nd tg [] (trs l))) :
    Calls Tryz.prog 53 [.int .u8 tg.toNat, lv].toArray w (GivesP w (fun y : HT => y.tr = Tr.nd tg [] (trs l) ∧ y.sv) (fun y => .agg y.c.toArray) (fun y => y.ents) (fun _ => [])) := by
  have slv := hlv.sv
  have llv := slv.le
  simp only [maxLen] at llv
  have ht : HSeen w.cell? (.nd tg nl [] lv l) := ⟨seen_nil _ 5 1, hlv, hhl⟩
  refine enter (m := 9) (R := Mem w [] [] []) Tryz.func53 rfl rfl (Nat.le_of_ble_eq_true rfl) (Mem.start w) ?_
  refine wpc_seq <| wpc_region ?_
  refine wpl_t (t_alloc Tryz.ti60 [.int .u8 0, nl, nl] rfl) rfl (fun b4 => ?_)
  refine wpl_nil <| ex_then <| wpc_seq <| wpc_region <| wpl_q (q_pure rfl) rfl <| wpl_q (q_pure rfl) rfl ?_
  refine wpl_q (q_build (cs := [.int .u8 (tg.toNat : Int), nl, lv]) rfl (built_o2 tg slv)) rfl ?_
  refine wpl_tp (t_callE (fun y : HT => .blk b4 60 [.int .u8 0, nl, nl] :: y.ents) (fun y => List.perm_append_comm) Tryz.hb83 rfl fun w h => octTwin (.nd tg nl [] lv l) w (ht.old h) hsm) rfl (fun b8 p8 => ?_)
  haveI := p8.2.one
  refine wpl_t0 (t_stA Tryz.ti60 rfl rfl LenC.h OneC.h LenC.h) (fun _ => ?_)
  refine wpl_nil <| ex_then <| wpc_ret ?_
  refine retv1 (.inl rfl) rfl (rv_agg Tryz.underlying60 rfl Tryz.ti60 rfl (fun w h => h.atB) LenC.h) ?_
  exact fun w1 h => ⟨b8, p8, rfl, h.below, h.made (.drop (Sub.refl _)) .nil⟩
end Go.Proofs.YtgnablliekgbgaaGreatDoor
namespace Go.Proofs.YtgnablliekgbgaaGreatDoor
open Go Go.PL Go.RowKit
theorem refSeq (tg : UInt8) (lv : Value) (l : List HT) (w : World) (hlv : Seen w.cell? lv l.length 3 (hcs l)) (hhl : HSeenL w.cell? l) (hsm : Sm (Tr.nd tg [] (trs l))) :
    Calls Tryz.prog 43 [.int .u8 tg.toNat, lv].toArray w (GivesP w (fun y : HT => y.tr = Tr.nd tg [] (trs l) ∧ y.sv) (fun y => .agg y.c.toArray) (fun y => y.ents) (fun _ => [])) := by
  have slv := hlv.sv
  have llv := slv.le
  simp only [maxLen] at llv
  have ht : HSeen w.cell? (.nd tg nl [] lv l) := ⟨seen_nil _ 5 1, hlv, hhl⟩
  have hln := sm_len (tg := tg) (bv := nl) (lv := lv) (bs := []) (l := l) hsm
  refine enter (m := 26) (R := Mem w [] [] []) Tryz.func43 rfl rfl (Nat.le_of_ble_eq_true rfl) (Mem.start w) ?_
  refine wpc_seq <| wpc_region ?_
  refine wpl_t (t_alloc Tryz.ti60 [.int .u8 0, nl, nl] rfl) rfl (fun b4 => ?_)
  refine wpl_nil <| ex_then <| wpc_seq <| wpc_region <| wpl_q (q_pure rfl) rfl ?_
  refine wpl_q (q_build (cs := [.int .u8 (tg.toNat : Int), nl, nl]) rfl (built_o0 tg)) rfl ?_
  refine wpl_t (t_alloc Tryz.ti60 [.int .u8 0, nl, nl] rfl) rfl (fun b5 => ?_)
  refine wpl_t0 (t_stA Tryz.ti60 rfl rfl LenC.h OneC.h LenC.h) (fun _ => ?_)
  refine wpl_nil <| ex_then <| wpc_seq <| wpc_seq <| wpc_region <| wpl_q (q_pure rfl) rfl <| wpl_nil <| ex_then <| wpc_block ?_
  refine wpc_loopc (ι := { x : Nat × List HT × Value // (x.1 ≤ l.length) ∧ (x.2.1.length = x.1) ∧ (trs x.2.1 = trs (l.take x.1)) ∧ (SV x.2.2 x.2.1.length) }) [(1, _), (4, _), (5, _)] (fun x Lc => (6, .int .i64 ((x.1.1 : Nat) : Int)) :: Lc) (fun x => Mem w [] (.blk b5 60 [.int .u8 (tg.toNat : Int), nl, x.1.2.2] :: .blk b4 60 [.int .u8 0, nl, nl] :: .row x.1.2.2 x.1.2.1.length 60 3 (hcs x.1.2.1) :: entsL x.1.2.1) []) (fun x => l.length - x.1.1) ⟨(0, [], nl), ⟨Nat.zero_le _, rfl, rfl, SV.nil⟩⟩ zz10 ?_ ?_
  ·
   exact fun w1 h => by
     have h2 : Mem w [] [.blk b5 60 [.int .u8 (tg.toNat : Int), nl, nl], .blk b4 60 [.int .u8 0, nl, nl], .row nl 0 60 3 []] [] w1 := (h.nilRow 60 3).sel
     exact h2
  ·
   rintro ⟨⟨i, ns, nv⟩, ⟨hi0, hi1, hi2, hi3⟩⟩; try dsimp only
   have hi0 : i ≤ l.length := hi0; have hi1 : ns.length = i := hi1; have hi2 : trs ns = trs (l.take i) := hi2; have hi3 : SV nv ns.length := hi3
   refine wpc_seq <| wpc_seq <| wpc_region <| wpl_q (q_pure rfl) rfl <| wpl_q (q_pure rfl) rfl ?_
   refine wpl_q (q_lenW Tryz.underlying58 rfl zz5) rfl ?_
   refine wpl_q (q_pure rfl) rfl <| wpl_nil <| ex_then ?_
   refine wpc_cond rfl (fun hc12 => ?_) (fun hc12 => ?_)
   ·
    simp only [decide_eq_true_eq] at hc12
    have hil : i < l.length := by omega
    have hx := HSeenL_iff.1 hhl _ (getD_memH hil)
    haveI := hx.sv.one
    haveI := oneH (t := tg) SV.nil hi3
    refine wpc_skip <| ex_then <| wpc_seq <| wpc_block ?_
    refine wpc_draw 8 zz8 (fun _ h => h.drew) ?_
    refine wpd_p 0 rfl zz8 trivial (q_field Tryz.underlying60 rfl Tryz.ti58 rfl rfl _ rfl) rfl sk0 ?_
    refine wpd_q 1 rfl zz8 trivial (q_ld Tryz.underlying58 rfl rfl rfl) rfl (fun _ h => h) ?_
    refine wpd_p 2 rfl zz8 trivial (q_pure rfl) rfl sk0 ?_
    refine wpd_p 3 rfl zz8 trivial (q_pure rfl) rfl sk0 ?_
    refine wpd_p 4 rfl zz8 trivial (q_idxW Tryz.underlying58 Tryz.ti60 rfl rfl zz5 zz1) rfl sk0 ?_
    refine wpd_qB 5 [6, 7, 8] rfl zz8 trivial (q_ldWN Tryz.underlying60 rfl Tryz.ti60 rfl (fun w h => h.seen_old hlv) (l.getD i HT.z).c (cat_part HT.c_length HT.z hil) (HT.c_length _)) rfl (fun _ h => h) ?_
    refine wpd_tp 6 rfl zz8 trivial (t_callE (fun y : HT => .blk b5 60 [.int .u8 (tg.toNat : Int), nl, nv] :: .blk b4 60 [.int .u8 0, nl, nl] :: .row nv ns.length 60 3 (hcs ns) :: (y.ents ++ entsL ns)) (fun y => List.perm_append_comm_assoc y.ents [.blk b5 60 [.int .u8 (tg.toNat : Int), nl, nv], .blk b4 60 [.int .u8 0, nl, nl], .row nv ns.length 60 3 (hcs ns)] (entsL ns)) Tryz.hb74 rfl fun w h => refTwin (l.getD i HT.z) w (hx.old h) (hsm.kid (bv := nl) (lv := lv) hil)) rfl (fun _ => (fun w h => .inr (h.sub SubC.h SubC.h))) (fun b21 p21 => ?_)
    haveI := p21.2.one
    have sb23 := p21.2
    refine wpd_tp 7 rfl zz8 trivial (t_bsG [.agg b21.c.toArray] b21.c Tryz.underlying58 Tryz.ti60 rfl zz22 rfl zz22 zz22 rfl zz44 (List.append_nil _)) rfl (fun _ => (fun w h => .inr (h.sub SubC.h SubC.h))) (fun b22 p22 => ?_)
    refine wpd_tp 8 rfl zz8 trivial (t_apW Tryz.underlying58 Tryz.ti60 rfl zz22 rfl rfl (fun w h => zz12) OneC.h zz1 zz1 (hcs (ns ++ [b21])) (cat_snoc HT.c ns b21)) rfl (fun _ => skk rfl) (fun b23 p23 => ?_)
    refine wpd_p 9 rfl zz8 trivial (q_field Tryz.underlying60 rfl Tryz.ti58 rfl rfl _ rfl) rfl (skk rfl) ?_
    refine wpd_t0 10 rfl zz8 trivial (t_st1 Tryz.ti58 rfl rfl (SV.one zz5) zz4 [.int .u8 (tg.toNat : Int), nl, b23] rfl) (fun _ => skk rfl) (fun _ => ?_)
    refine wpd_done zz8 ?_
    refine ex_block <| ex_then <| wpc_region <| wpl_q (q_pure rfl) rfl ?_
    refine wpl_q (q_addN (b := 1) rfl rfl zz1) rfl ?_
    refine wpl_q (q_pure rfl) rfl <| wpl_nil ?_
    refine ex_again ⟨(i + 1, ns ++ [b21], b23), ⟨zz16, by rw [snoc_len, hi1], by rw [trs_append, hi2, trs_takeS hil, ← p21.1]; rfl, by rw [snoc_len]; exact p23⟩⟩ ?_ ?_ ?_
    ·
     exact zz10
    ·
     exact fun w h => by
       dsimp only
       rw [snoc_len]
       have h2 := h.sub (M' := .blk b5 60 [.int .u8 (tg.toNat : Int), nl, b23] :: .blk b4 60 [.int .u8 0, nl, nl] :: .row b23 (ns.length + 1) 60 3 (hcs (ns ++ [b21])) :: (b21.ents ++ entsL ns)) (S' := []) SubC.h .nil
       exact h2.perm ((((entsL_snoc ns b21).cons _).cons _).cons _)
    ·
     (show l.length - (i + 1) < l.length - i); omega
   ·
    simp only [decide_eq_false_iff_not] at hc12
    obtain rfl : i = l.length := by omega
    rw [List.take_length] at hi2
    haveI := oneH (t := tg) SV.nil hi3
    refine wpc_exit ?_
    refine ex_then_exit ?_
    refine ex_then_exit ?_
    refine ex_block_hit ?_
    refine ex_then <| wpc_seq <| wpc_region <| wpl_q (q_ldN Tryz.underlying60 rfl Tryz.ti60 rfl LenC.h) rfl ?_
    refine wpl_t0 (t_stA Tryz.ti60 rfl rfl LenC.h OneC.h LenC.h) (fun _ => ?_)
    refine wpl_nil <| ex_then <| wpc_ret ?_
    refine retv1 (.inl rfl) rfl (rv_agg Tryz.underlying60 rfl Tryz.ti60 rfl (fun w h => h.atB) zz0) ?_
    exact fun w1 h => ⟨.nd tg nl [] nv ns, ⟨by show Tr.nd tg [] (trs ns) = _; rw [hi2], SV.nil, hi3⟩, rfl, h.below, madeT (bv := nl) (bs := []) (by
      have h2 : Mem w [] (.row nl 0 5 1 [] :: .row nv ns.length 60 3 (hcs ns) :: entsL ns) [] w1 := (h.nilRow 5 1).sub SubC.h .nil
      exact h2)⟩
end Go.Proofs.YtgnablliekgbgaaGreatDoor
namespace Go.Proofs.YtgnablliekgbgaaGreatDoor
open Go Go.PL Go.RowKit
theorem frz {P : Program} {k : FuncId} {vs : Array Value} {w : World} {p : HT → Prop} {V : HT → Value} (h : Calls P k vs w (GivesP w p V (fun y => y.ents) (fun _ => []))) : Calls P k vs w (GivesP w p V (fun _ => []) (fun y => [Go.Proofs.YtgnablliekgbgaaGreatDoor.hseen y])) := by
  refine h.mono ?_
  rintro e w' ⟨y, hp, rfl, hb, hn⟩
  have hm := (Mem.start w).call hb hn
  rw [List.append_nil, List.append_nil] at hm
  exact ⟨y, hp, rfl, hb, new_freeze hm⟩
end Go.Proofs.YtgnablliekgbgaaGreatDoor
namespace Go.Proofs.YtgnablliekgbgaaGreatDoor
open Go Go.PL Go.RowKit
def StabT (K : List Nat → World → Prop) : Prop := ∀ T T' w1 w2, K T w1 → Mem w1 T [] [] w2 → (∀ k, k ∈ T' → (k ∈ T ∨ w1.heap.size ≤ k) ∧ k < w2.heap.size) → K T' w2
def YieldN (P : Program) (l : Nat) {α ι : Type} (encs : α → ι → Array Value) (xs : List α) (J : List Nat → List α → World → Prop) (K : List Nat → World → Prop) : Prop :=
  ∀ T pre x i w1, J T pre w1 → (pre ++ [x]) <+: xs → YieldAt Fence.wide 0 P l (encs x i) w1 fun e w' =>
    ((e = .returned (.bool true) ∧ J T (pre ++ [x]) w') ∨ (e = .returned (.bool false) ∧ K T w')) ∧ ∀ k, k ∈ T → w'.heap[k]? = w1.heap[k]?
def IterPostN {α : Type} (J : List Nat → List α → World → Prop) (K : List Nat → World → Prop) (xs : List α) (e : Ending) (w : World) : Prop := (∃ v, e = .returned v) ∧ ((∃ T, J T xs w) ∨ ∃ T, K T w)
def IterN (P : Program) (gf : FuncId) (lb : Array Value) {α ι : Type} (encs : α → ι → Array Value) (Inv : World → Prop) (xs : List α) (T0 : List Nat) (W : World) : Prop :=
  ∀ (l : Nat) (J : List Nat → List α → World → Prop) (K : List Nat → World → Prop), StabJ J → (∀ T pre w1, J T pre w1 → Inv w1) → StabT K → YieldN P l encs xs J K →
    J T0 [] W → Calls P gf (#[.func (.yield l) #[] #[]] ++ lb) W (IterPostN J K xs)
theorem iter_doneN {α : Type} {J : List Nat → List α → World → Prop} {K : List Nat → World → Prop} {xs : List α} {v : Value} {wb w : World} {T0 : List Nat} {M : List Ent} {S : List Fact} (hst : StabJ J) (hJ : J T0 xs wb) (h : Mem wb T0 M S w) : IterPostN J K xs (.returned v) w :=
  ⟨⟨v, rfl⟩, .inl ⟨[], hst _ _ _ _ _ hJ (h.sub .nil .nil) (fun k hk => by cases hk)⟩⟩
theorem iter_stopN {α : Type} {J : List Nat → List α → World → Prop} {K : List Nat → World → Prop} {xs : List α} {v : Value} {wb w : World} {T0 : List Nat} {M : List Ent} {S : List Fact} (hsk : StabT K) (hK : K T0 wb) (h : Mem wb T0 M S w) : IterPostN J K xs (.returned v) w :=
  ⟨⟨v, rfl⟩, .inr ⟨[], hsk _ _ _ _ hK (h.sub .nil .nil) (fun k hk => by cases hk)⟩⟩
theorem asEnts (w : World) : ∀ (T : List Nat), (∀ j ∈ T, j < w.heap.size) → ∃ TE : List Ent, (∀ e ∈ TE, ∃ j o, e = .obj j o ∧ j ∈ T ∧ w.heap[j]? = some o) ∧ (∀ j ∈ T, ∃ o, Ent.obj j o ∈ TE) ∧ TE.Pairwise fun e f => ∀ k, e.num = some k → f.num ≠ some k
  | [], _ => ⟨[], fun e he => (by cases he), fun j hj => (by cases hj), .nil⟩
  | j :: T, h => by
    obtain ⟨TE, h1, h2, h3⟩ := asEnts w T fun k hk => h k (List.mem_cons_of_mem _ hk)
    by_cases hj : j ∈ T
    · refine ⟨TE, fun e he => ?_, fun k hk => ?_, h3⟩
      · obtain ⟨a, o, e1, e2, e3⟩ := h1 e he
        exact ⟨a, o, e1, List.mem_cons_of_mem _ e2, e3⟩
      · rcases List.mem_cons.1 hk with rfl | hk
        · exact h2 _ hj
        · exact h2 _ hk
    · have hlt := h j (List.mem_cons_self ..)
      refine ⟨.obj j (w.heap[j]) :: TE, fun e he => ?_, fun k hk => ?_, List.pairwise_cons.2 ⟨fun f hf k hk hfk => ?_, h3⟩⟩
      · rcases List.mem_cons.1 he with rfl | he
        · exact ⟨j, _, rfl, List.mem_cons_self .., Array.getElem?_eq_getElem hlt⟩
        · obtain ⟨a, o, e1, e2, e3⟩ := h1 e he
          exact ⟨a, o, e1, List.mem_cons_of_mem _ e2, e3⟩
      · rcases List.mem_cons.1 hk with rfl | hk
        · exact ⟨_, List.mem_cons_self ..⟩
        · obtain ⟨o, ho⟩ := h2 k hk
          exact ⟨o, List.mem_cons_of_mem _ ho⟩
      · obtain ⟨a, o, rfl, e2, _⟩ := h1 f hf
        cases hk; cases hfk
        exact hj e2
def Nest (B : List Nat → World → Prop) (MM : List Ent) (T : List Nat) (w : World) : Prop := B (nums MM ++ T) w ∧ Mem w (nums MM) MM [] w ∧ ∀ j ∈ T, inM MM j = false ∧ j < w.heap.size
theorem nest_stab {B : List Nat → World → Prop} (hB : StabT B) (MM : List Ent) : StabT (Nest B MM) := by
  rintro T T' w1 w2 ⟨j1, j2, j3⟩ hc hT
  have hlt : ∀ k, k ∈ nums MM → k < w1.heap.size := fun k hk => (nums_lt j2 k hk).2
  have hkeep : ∀ k, k ∈ nums MM → w2.heap[k]? = w1.heap[k]? := fun k hk => hc.old k (hlt k hk) fun hm => by
    obtain ⟨e, he, hn⟩ := mem_nums.1 hk
    exact inM_not (j3 k hm).1 e he hn
  refine ⟨hB _ _ _ _ j1 (hc.lend fun k hk => List.mem_append_right _ hk) fun k hk => ?_, j2.again hkeep, fun j hj => ?_⟩
  · rcases List.mem_append.1 hk with hk | hk
    · exact ⟨.inl (List.mem_append_left _ hk), Nat.lt_of_lt_of_le (hlt k hk) hc.size⟩
    · obtain ⟨h1, h2⟩ := hT k hk
      exact ⟨h1.imp (fun h => List.mem_append_right _ h) id, h2⟩
  · obtain ⟨h1, h2⟩ := hT j hj
    refine ⟨?_, h2⟩
    rcases h1 with h1 | h1
    · exact (j3 j h1).1
    · cases hm : inM MM j
      · rfl
      · obtain ⟨e, he, hn⟩ := inM_iff.1 hm
        have := hlt j (mem_nums.2 ⟨e, he, hn⟩)
        omega
theorem stabJ_T {α : Type} {J : List Nat → List α → World → Prop} (h : StabJ J) (pre : List α) : StabT (fun T w => J T pre w) := fun T T' w1 w2 h1 hc hT => h T T' pre w1 w2 h1 hc hT
theorem nest_back {B : List Nat → World → Prop} (hB : StabT B) {M TE : List Ent} {T T3 : List Nat} {l D : Nat} {o o' od : Obj} {u w2 w3 : World} (h1 : ∀ e ∈ TE, ∃ j o, e = .obj j o ∧ j ∈ T ∧ w2.heap[j]? = some o) (h2 : ∀ j ∈ T, ∃ o, Ent.obj j o ∈ TE)
    (hb : B T3 u) (hm : Mem u T3 (M ++ ([.obj l o, .obj D od] ++ TE)) [] w3) : Nest B ([.obj l o', .obj D od] ++ M) T (w3.putObj l o') ∧ ∀ j ∈ T, (w3.putObj l o').heap[j]? = w2.heap[j]? := by
  have hp1 : Mem u T3 (.obj l o :: .obj D od :: (M ++ TE)) [] w3 := hm.perm (by
    have q := List.perm_append_comm_assoc M [Ent.obj l o, Ent.obj D od] TE
    exact q)
  have hp2 : Mem u T3 (([.obj l o', .obj D od] ++ M) ++ TE) [] (w3.putObj l o') := hp1.putO .here
  have hp3 := List.pairwise_append.1 hp2.apart
  have hin : ∀ j ∈ T, ∃ ob, Ent.obj j ob ∈ TE ∧ (w3.putObj l o').heap[j]? = some ob ∧ w2.heap[j]? = some ob := fun j hj => by
    obtain ⟨ob, ho⟩ := h2 j hj
    obtain ⟨j', o2, e1, _, e3⟩ := h1 _ ho
    cases e1
    exact ⟨ob, ho, hp2.own _ (List.mem_append_right _ ho), e3⟩
  refine ⟨⟨hB _ _ _ _ hb (hp2.sub .nil .nil) fun k hk => nums_lt hp2 k ?_, Mem.startL _ (fun e he => hp2.own e (List.mem_append_left _ he)) hp3.1, fun j hj => ?_⟩, fun j hj => ?_⟩
  · rcases List.mem_append.1 hk with hk | hk
    · obtain ⟨e, he, hn⟩ := mem_nums.1 hk
      exact mem_nums.2 ⟨e, List.mem_append_left _ he, hn⟩
    · obtain ⟨ob, ho, _⟩ := hin k hk
      exact mem_nums.2 ⟨_, List.mem_append_right _ ho, rfl⟩
  · obtain ⟨ob, ho, h3, _⟩ := hin j hj
    refine ⟨?_, (Array.getElem?_eq_some_iff.1 h3).1⟩
    cases hm : inM ([.obj l o', .obj D od] ++ M) j
    · rfl
    · obtain ⟨e, he, hn⟩ := inM_iff.1 hm
      exact absurd rfl (hp3.2.2 e he _ ho j hn)
  · obtain ⟨ob, _, h3, h4⟩ := hin j hj
    rw [h3, h4]
class FR (F : Fence) : Prop where
  depth : F.depth = none
  fn : ∀ f, F.fn f
  round : ∀ {P : Program} {l : Nat} {f : FuncId} {tmps : Array Value} {assign body : Code} {w : World} {R : Ending → World → Prop}, RoundIn Fence.wide 0 P l f tmps assign body w R → RoundIn F 0 P l f tmps assign body w R
instance fr_wide : FR Fence.wide := ⟨rfl, fun _ => trivial, id⟩
instance fr_round {l : Nat} : FR (Fence.wide.inRound l) := ⟨rfl, fun _ => trivial, fun h => h⟩
section
variable {F : Fence} {P : Program} {n : Cx} {R : World → Prop} {L : Slots} {Q : Exit → Act → World → Prop} {ops : Array Oper} {rest : List Oper} {op : Op} {ty : TypeId} {pos : String} {af : Array Edge} {d : Tmp}
theorem wil_yieldN [hF : FR F] {x : Operand} {args : Array Operand} {at_ : Array TypeId} {l : Nat} {vs : List Value} {α ι : Type} {encs : α → ι → Array Value} {xs : List α} {J : List Nat → List α → World → Prop} {K : List Nat → World → Prop}
    {wb : World} {T0 : List Nat} {M : List Ent} {S : List Fact} {pre : List α} (y : α) (i : ι)
    (hx : ev L x = some (.func (.yield l) #[] #[])) (hv : evs L args.toList = some vs) (hst : StabJ J) (hy : YieldN P l encs xs J K) (hJ : J T0 pre wb) (hpre : (pre ++ [y]) <+: xs) (he : encs y i = vs.toArray) (hd : Nat.blt d n.n = true)
    (ht : ∀ u, J (nums M) (pre ++ [y]) u → WPLI F P ops Q n (Mem u (nums M) M []) ((d, .bool true) :: L) rest)
    (hf : ∀ u, K (nums M) u → WPLI F P ops Q n (Mem u (nums M) M []) ((d, .bool false) :: L) rest) :
    WPLI F P ops Q n (Mem wb T0 M S) L (⟨some d, .call { callee := .value x, args := args, argTypes := at_ }, ty, pos, af, none⟩ :: rest) := by
  intro a w hs h
  have hargs : args.map a.eval = vs.toArray := by
    have e : (args.map a.eval).toList = vs := by rw [Array.toList_map]; exact evs_eval hs hv
    rw [← e]
  have hJ' : J (nums M) pre w := hst _ _ _ _ _ hJ (h.sub .nil .nil) (nums_lt h)
  obtain ⟨fn, tmps, assign, body, hrun, hround⟩ := hy (nums M) pre y i w hJ' hpre
  rw [he] at hrun
  unfold wpListIn
  simp only [Region.wanted, if_true]
  refine ⟨fun f _ => hF.fn f, ?_⟩
  have hrun' : (execOp a.eval ⟨some d, .call { callee := .value x, args := args, argTypes := at_ }, ty, pos, af, none⟩).run P w = .ok (.round l fn tmps assign body) w := by
    simp only [execOp, resolve, hs.eval hx, hargs]
    simp [Deferred.ofValue, invoke, hrun]
  rw [Oper.semAt_eq _ _ _ (fun c h => by cases h), hrun', Oper.uponIn_round]
  refine ⟨fun e => (by rw [hF.depth] at e; cases e), hF.round (RoundIn.mono hround ?_)⟩
  rintro e w' ⟨h1, hk⟩
  rcases h1 with ⟨rfl, j1⟩ | ⟨rfl, k1⟩
  · exact ht w' j1 _ _ (hs.put hd _) (h.again hk)
  · exact hf w' k1 _ _ (hs.put hd _) (h.again hk)
end
theorem wpc_rangeN {P : Program} {Q : Exit → Act → World → Prop} {gx : Operand} {ps : Array Tmp} {assign body : Code} {k : Nat} {ds : List Deferred} {L : Slots} {wb : World} {Ln : List Nat} {S : List Fact} {α ι β : Type} {gf : FuncId} {lb : Array Value}
    {encs : α → ι → Array Value} {Inv : World → Prop} {xs : List α} {J : List Nat → List α → World → Prop} {K : List Nat → World → Prop} (E0 M : List Ent) (pre0 : List α) (Ma : α → ι → β → List Ent) (L1 : α → ι → β → Slots)
    (hst : StabJ J) (hsk : StabT K) (hinv : ∀ T pre w, J T pre w → Inv w) (hJ : J Ln pre0 wb)
    (hg : ev L gx = some (.func (.func gf) #[] lb)) (hbd : HasBody P gf)
    (hit : ∀ w, Mem wb Ln (E0 ++ M) S w → Inv w → IterN P gf lb encs Inv xs (nums E0) w)
    (hps : ∀ x i, (encs x i).size = ps.size) (hpk : ∀ p ∈ ps.toList, p < k)
    (hassign : ∀ (l : Nat) (x : α) (i : ι) (w1 : World) (K : Act → World → Prop), x ∈ xs → (∀ b a w, Sl ⟨k, []⟩ a (L1 x i b) → Mem w1 [] (Ma x i b) [] w → K a w) →
      WPCI (Fence.wide.inRound l) P (Exit.then K (fun _ _ _ => False)) ⟨k, []⟩ (Mem w1 [] [] []) (addSlots ps.toList (encs x i).toList L) assign)
    (hbody : ∀ (l : Nat) (pre : List α) (x : α) (i : ι) (b : β) (w1 : World) (LO : List Ent), J (nums (Ma x i b ++ (M ++ LO))) (pre0 ++ pre) w1 → (pre ++ [x]) <+: xs →
      WPCI (Fence.wide.inRound l) P (RoundPostS (fun w' => ∃ u T, J T (pre0 ++ (pre ++ [x])) u ∧ Mem u T (M ++ LO) [] w') (fun c w' => c = .ret ∧ ∃ u T, K T u ∧ Mem u T (M ++ LO) [] w')) ⟨k, []⟩ (Mem w1 (nums (Ma x i b ++ (M ++ LO))) (Ma x i b ++ (M ++ LO)) []) (L1 x i b) body)
    (hdone : ∀ D u T, J T (pre0 ++ xs) u → EX Q .normal ⟨k, Go.PL.mark D :: ds⟩ (Mem u T (Ent.obj D (.deferred (some [])) :: M) []) L)
    (hstop : ∀ D u T, K T u → WPC P Q ⟨k, Go.PL.mark D :: ds⟩ (Mem u T (Ent.obj D (.deferred (some [])) :: M) []) L .ret) :
    WPC P Q ⟨k, ds⟩ (Mem wb Ln (E0 ++ M) S) L (.rangeFunc gx ps assign body) := by
  intro a w hs hr
  refine (wpIn_wide (n := 0)).1 (wpIn_rangeFunc ?_)
  intro fn hfn
  obtain ⟨rec, hrec⟩ : ∃ rec : LoopState → Option Code → Loop, rec = fun st pe => { state := st, pending := pe, fn, tmps := a.tmps, params := ps, assign, body, defers := w.heap.size } := ⟨_, rfl⟩
  obtain ⟨W1, hW1⟩ : ∃ W1, (w.alloc (.deferred (some []))).alloc (.loop (rec .ready none)) = W1 := ⟨_, rfl⟩
  have hM1 : Mem wb Ln (.obj (w.heap.size + 1) (.loop (rec .ready none)) :: Ent.obj w.heap.size (.deferred (some [])) :: (E0 ++ M)) S W1 := by
    have := (hr.allocO (.deferred (some []))).allocO (.loop (rec .ready none))
    rw [World.size_alloc] at this
    rw [← hW1, hrec]; rw [hrec] at this; exact this
  have hr1 : Mem wb Ln (E0 ++ M) S W1 := hM1.sub (.drop (.drop (Sub.refl _))) (Sub.refl _)
  have hI1 : Inv W1 := hinv _ _ _ (hst _ (nums (E0 ++ M)) _ _ _ hJ (hr1.sub .nil .nil) (nums_lt hr1))
  refine ⟨w.heap.size + 1, [Go.PL.mark w.heap.size], W1, { target := .fn (.func gf) lb, args := #[.func (.yield (w.heap.size + 1)) #[] #[]] }, W1, gf, #[.func (.yield (w.heap.size + 1)) #[] #[]] ++ lb, W1, ?_, ?_, fun _ _ => trivial, ?_, fun e => by simp [Fence.wide] at e, ?_⟩
  · rw [← hW1, hrec]; exact run_enterLoop_outer _ _ _ _ _
  · simp only [resolve, rangeCall, hs.eval hg]
    simp [go_sem]
  · simp [invoke, run_callFunc hbd]
  · refine callsIn_wide.2 ?_
    have hM2 : Mem wb Ln ([Ent.obj (w.heap.size + 1) (.loop (rec .ready none)), Ent.obj w.heap.size (.deferred (some []))] ++ M) S W1 := hM1.sub (.keep (.keep (sub_app _ _))) (Sub.refl _)
    have hJ0 : Nest (fun T w' => J T (pre0 ++ []) w') ([Ent.obj (w.heap.size + 1) (.loop (rec .ready none)), Ent.obj w.heap.size (.deferred (some []))] ++ M) (nums E0) W1 := by
      have hp : ([Ent.obj (w.heap.size + 1) (.loop (rec .ready none)), Ent.obj w.heap.size (.deferred (some []))] ++ (E0 ++ M)).Perm (([Ent.obj (w.heap.size + 1) (.loop (rec .ready none)), Ent.obj w.heap.size (.deferred (some []))] ++ M) ++ E0) := by
        rw [List.append_assoc]; exact List.Perm.append_left _ List.perm_append_comm
      have hM3 := Mem.perm hM1 hp
      refine ⟨?_, Mem.startL W1 hM2.own hM2.apart, fun j hj => ?_⟩
      · rw [List.append_nil]
        refine hst _ _ _ _ _ hJ (hM1.sub .nil .nil) fun k hk => nums_lt hM3 k ?_
        rcases List.mem_append.1 hk with hk | hk
        · obtain ⟨e, he, hn⟩ := mem_nums.1 hk
          exact mem_nums.2 ⟨e, List.mem_append_left _ he, hn⟩
        · obtain ⟨e, he, hn⟩ := mem_nums.1 hk
          exact mem_nums.2 ⟨e, List.mem_append_right _ he, hn⟩
      · obtain ⟨e, he, hn⟩ := mem_nums.1 hj
        refine ⟨?_, Ent.lt (hM3.own e (List.mem_append_right _ he)) hn⟩
        cases hm : inM ([Ent.obj (w.heap.size + 1) (.loop (rec .ready none)), Ent.obj w.heap.size (.deferred (some []))] ++ M) j
        · rfl
        · obtain ⟨f, hf, hfn⟩ := inM_iff.1 hm
          exact absurd hn ((List.pairwise_append.1 hM3.apart).2.2 f hf e he j hfn)
    refine (hit W1 hr1 hI1 (w.heap.size + 1) (fun T pre w' => Nest (fun T w' => J T (pre0 ++ pre) w') ([Ent.obj (w.heap.size + 1) (.loop (rec .ready none)), Ent.obj w.heap.size (.deferred (some []))] ++ M) T w')
      (Nest K ([Ent.obj (w.heap.size + 1) (.loop (rec .done (some .ret))), Ent.obj w.heap.size (.deferred (some []))] ++ M)) ?_ ?_ (nest_stab hsk _) ?_ hJ0).mono ?_
    · exact fun T T' pre w1 w2 h hc hT => nest_stab (stabJ_T hst (pre0 ++ pre)) _ T T' w1 w2 h hc hT
    · exact fun T pre w1 h => hinv _ _ _ h.1
    · rintro T pre x i w1 ⟨j1, j2, j3⟩ hpre
      have hl : w1.heap[w.heap.size + 1]? = some (.loop (rec .ready none)) := j2.own _ (List.mem_cons_self ..)
      have hy := run_yield (P := P) (args := encs x i) hl (by rw [hrec]; exact hps x i)
      rw [hrec] at hy
      refine ⟨fn, _, assign, body, hy, roundIn_of_wpIn hfn ?_⟩
      have hsl : Sl ⟨k, []⟩ { tmps := ((ps.zip (encs x i)).foldl (fun t (p, v) => t.setIfInBounds p v) a.tmps), defers := [] } (addSlots ps.toList (encs x i).toList L) := by
        have hs0 : Sl ⟨k, []⟩ { tmps := a.tmps, defers := [] } L := ⟨hs.size, rfl, hs.tmp⟩
        have := sl_adds ps.toList (encs x i).toList L a.tmps k (by simpa using (hps x i).symm) hpk hs0
        rw [← Array.foldl_toList, Array.toList_zip]
        exact this
      refine hassign (w.heap.size + 1) x i w1 _ (hpre.subset (List.mem_append_right _ (List.mem_singleton.2 rfl))) (fun b a1 wa hs1 hwa => ?_) _ w1 hsl (Mem.start w1)
      have jA := j2.beside hwa
      have hla : wa.heap[w.heap.size + 1]? = some (.loop (rec .ready none)) := jA.own _ (List.mem_append_right _ (List.mem_cons_self ..))
      have jA2 := jA.perm (List.perm_append_comm_assoc (Ma x i b) [Ent.obj (w.heap.size + 1) (.loop (rec .ready none)), Ent.obj w.heap.size (.deferred (some []))] M)
      obtain ⟨w2, hw2⟩ : ∃ w2, wa.putObj (w.heap.size + 1) (.loop { rec .ready none with state := .busy }) = w2 := ⟨_, rfl⟩
      have jB : Mem w1 (nums ([Ent.obj (w.heap.size + 1) (.loop (rec .ready none)), Ent.obj w.heap.size (.deferred (some []))] ++ M)) ([Ent.obj (w.heap.size + 1) (.loop { rec .ready none with state := .busy }), Ent.obj w.heap.size (.deferred (some []))] ++ (Ma x i b ++ M)) [] w2 := by
        rw [← hw2]; exact jA2.putO .here
      have hbr : (Instr.beginRound (w.heap.size + 1)).run P wa = .ok () w2 := by rw [← hw2]; exact run_beginRound hla (by rw [hrec])
      have hTk : ∀ j, j ∈ T → w2.heap[j]? = w1.heap[j]? := fun j hj => by
        have hne : j ≠ w.heap.size + 1 := fun e => by
          subst e
          exact inM_not (j3 _ hj).1 _ (List.mem_cons_self ..) rfl
        rw [← hw2, World.putObj_heap_other hne]
        exact hwa.old j (j3 j hj).2 zz47
      obtain ⟨TE, t1, t2, t3⟩ := asEnts w2 T fun j hj => Nat.lt_of_lt_of_le (j3 j hj).2 jB.size
      have jC : Mem w1 (nums ([Ent.obj (w.heap.size + 1) (.loop (rec .ready none)), Ent.obj w.heap.size (.deferred (some []))] ++ M)) (Ma x i b ++ (M ++ [Ent.obj (w.heap.size + 1) (.loop { rec .ready none with state := .busy }), Ent.obj w.heap.size (.deferred (some []))])) [] w2 := jB.perm (List.perm_append_comm.trans (by rw [List.append_assoc]))
      have hXY : (Ma x i b ++ (M ++ ([Ent.obj (w.heap.size + 1) (.loop { rec .ready none with state := .busy }), Ent.obj w.heap.size (.deferred (some []))] ++ TE))) = (Ma x i b ++ (M ++ [Ent.obj (w.heap.size + 1) (.loop { rec .ready none with state := .busy }), Ent.obj w.heap.size (.deferred (some []))])) ++ TE := by simp only [List.append_assoc]
      have hall : Mem w2 (nums (Ma x i b ++ (M ++ ([Ent.obj (w.heap.size + 1) (.loop { rec .ready none with state := .busy }), Ent.obj w.heap.size (.deferred (some []))] ++ TE)))) (Ma x i b ++ (M ++ ([Ent.obj (w.heap.size + 1) (.loop { rec .ready none with state := .busy }), Ent.obj w.heap.size (.deferred (some []))] ++ TE))) [] w2 := by
        rw [hXY]
        refine Mem.startL w2 (fun e he => ?_) (List.pairwise_append.2 ⟨jC.apart, t3, fun e he f hf j hn hfn => ?_⟩)
        · rcases List.mem_append.1 he with he | he
          · exact jC.own e he
          · obtain ⟨j, o, rfl, _, ho⟩ := t1 e he
            exact ho
        · obtain ⟨j', o, rfl, hj, _⟩ := t1 f hf
          cases hfn
          rcases jC.new e he j hn with h | h
          · have := (j3 j hj).2; omega
          · obtain ⟨g, hg2, hgn⟩ := mem_nums.1 h
            exact inM_not (j3 j hj).1 g hg2 hgn
      have hJ2 : J (nums (Ma x i b ++ (M ++ ([Ent.obj (w.heap.size + 1) (.loop { rec .ready none with state := .busy }), Ent.obj w.heap.size (.deferred (some []))] ++ TE)))) (pre0 ++ pre) w2 := by
        refine hst _ _ _ w1 w2 j1 ((jC.sub .nil .nil).lend fun k hk => List.mem_append_left _ hk) fun k hk => ?_
        rw [hXY] at hk
        obtain ⟨e, he, hn⟩ := mem_nums.1 hk
        rcases List.mem_append.1 he with he | he
        · obtain ⟨q1, q2⟩ := nums_lt jC k (mem_nums.2 ⟨e, he, hn⟩)
          exact ⟨q1.imp (fun h => List.mem_append_left _ h) id, q2⟩
        · obtain ⟨j, o, rfl, hj, ho⟩ := t1 e he
          cases hn
          exact ⟨.inl (List.mem_append_right _ hj), (Array.getElem?_eq_some_iff.1 ho).1⟩
      refine ⟨w2, hbr, wpIn_mono (hbody (w.heap.size + 1) pre x i b w2 _ hJ2 hpre a1 w2 hs1 hall) ?_⟩
      rintro e a3 w3 hp
      cases e with
      | normal =>
        obtain ⟨u, T3, hb, hm⟩ : ∃ u T3, J T3 (pre0 ++ (pre ++ [x])) u ∧ Mem u T3 (M ++ ([Ent.obj (w.heap.size + 1) (.loop { rec .ready none with state := .busy }), Ent.obj w.heap.size (.deferred (some []))] ++ TE)) [] w3 := hp
        have hl3 : w3.heap[w.heap.size + 1]? = some (.loop { rec .ready none with state := .busy }) := hm.own _ (List.mem_append_right _ (List.mem_cons_self ..))
        have hend := run_endRound (P := P) none hl3
        have hback : { { rec .ready none with state := .busy } with state := if (none : Option Code).isNone then .ready else .done, pending := none } = rec .ready none := by rw [hrec]; rfl
        rw [hback] at hend
        obtain ⟨n1, n2⟩ := nest_back (o' := .loop (rec .ready none)) (stabJ_T hst (pre0 ++ (pre ++ [x]))) t1 t2 hb hm
        exact ⟨_, _, hend, .inl ⟨rfl, n1⟩, fun j hj => (n2 j hj).trans (hTk j hj)⟩
      | ret =>
        obtain ⟨_, u, T3, hb, hm⟩ : Code.ret = .ret ∧ ∃ u T3, K T3 u ∧ Mem u T3 (M ++ ([Ent.obj (w.heap.size + 1) (.loop { rec .ready none with state := .busy }), Ent.obj w.heap.size (.deferred (some []))] ++ TE)) [] w3 := hp
        have hl3 : w3.heap[w.heap.size + 1]? = some (.loop { rec .ready none with state := .busy }) := hm.own _ (List.mem_append_right _ (List.mem_cons_self ..))
        have hend := run_endRound (P := P) (some .ret) hl3
        have hback : { { rec .ready none with state := .busy } with state := if (some Code.ret : Option Code).isNone then .ready else .done, pending := some .ret } = rec .done (some .ret) := by rw [hrec]; rfl
        rw [hback] at hend
        obtain ⟨n1, n2⟩ := nest_back (o' := .loop (rec .done (some .ret))) hsk t1 t2 hb hm
        exact ⟨_, _, hend, .inr ⟨rfl, n1⟩, fun j hj => (n2 j hj).trans (hTk j hj)⟩
      | exit id => exact (Code.noConfusion (hp : Code.exit id = .ret ∧ _).1)
      | goto t => exact (hp : False).elim
      | panic ch => exact (hp : False).elim
      | outgrown => exact (hp : False).elim
    · rintro e w2 ⟨⟨v, rfl⟩, (⟨T, j1, j2, j3⟩ | ⟨T, j1, j2, j3⟩)⟩
      · have hl : w2.heap[w.heap.size + 1]? = some (.loop (rec .ready none)) := j2.own _ (List.mem_cons_self ..)
        have hend := run_endLoop (P := P) hl (by rw [hrec]; simp)
        have hpn : (rec .ready none).pending = none := by rw [hrec]
        rw [hpn] at hend
        refine ⟨none, _, hend, ?_⟩
        have hd : a.defers = ds := hs.defers
        refine hdone w.heap.size w2 _ j1 _ _ ⟨hs.size, by simp [hd], hs.tmp⟩ ?_
        exact ((j2.lend fun k hk => List.mem_append_left _ hk).putO .here).sub (.drop (Sub.refl _)) .nil
      · have hl : w2.heap[w.heap.size + 1]? = some (.loop (rec .done (some .ret))) := j2.own _ (List.mem_cons_self ..)
        have hend := run_endLoop (P := P) hl (by rw [hrec]; simp)
        have hpn : (rec .done (some .ret)).pending = some .ret := by rw [hrec]
        rw [hpn] at hend
        refine ⟨some .ret, _, hend, ?_⟩
        have hd : a.defers = ds := hs.defers
        refine (wpIn_wide (n := 0)).2 (hstop w.heap.size w2 _ j1 _ _ ⟨hs.size, by simp [hd], hs.tmp⟩ ?_)
        exact ((j2.lend fun k hk => List.mem_append_left _ hk).putO .here).sub (.drop (Sub.refl _)) .nil
end Go.Proofs.YtgnablliekgbgaaGreatDoor
namespace Go.Proofs.YtgnablliekgbgaaGreatDoor
open Go Go.PL Go.RowKit
section
variable {P : Program} {R : World → Prop} {L : Slots} {Q : Exit → Act → World → Prop}
def AgainD (k : Nat) {ι : Type} (ds : ι → List Deferred) (Li : ι → Slots) (Ri : ι → World → Prop) (μ : ι → Nat) (x : ι) (a : Act) (w : World) : Prop := ∃ y, Sl ⟨k, ds y⟩ a (Li y) ∧ Ri y w ∧ μ y < μ x
theorem wpc_loopd {k : Nat} {c : Code} {ι : Type} (ds : ι → List Deferred) (Li : ι → Slots) (Ri : ι → World → Prop) (μ : ι → Nat) (x0 : ι) (h0 : subs L (Li x0)) (hR : ∀ w, R w → Ri x0 w)
    (round : ∀ x, WPC P (Exit.then (AgainD k ds Li Ri μ x) Q) ⟨k, ds x⟩ (Ri x) (Li x) c) : WPC P Q ⟨k, ds x0⟩ R L (.loop c) := by
  intro a w hs hr
  have key : ∀ m x a w, μ x = m → Sl ⟨k, ds x⟩ a (Li x) → Ri x w → ∀ (b : Frame) (k : List Item) (cs : List Frame),
      ∃ e a' w', Q e a' w' ∧ Arrives P (lone (b.at a (.code c :: .inLoop c :: k)) cs w) b k cs e a' w' := by
    intro m
    induction m using Nat.strongRecOn with
    | _ m ih =>
      intro x a w hm hs hr b k cs
      obtain ⟨e, a₁, w₁, hq, harr⟩ := round x a w hs hr b (.inLoop c :: k) cs
      cases e with
      | normal =>
        obtain ⟨y, hs1, hr1, hlt⟩ := hq
        obtain ⟨e₂, a₂, w₂, hq₂, harr₂⟩ := ih (μ y) (hm ▸ hlt) y a₁ w₁ rfl hs1 hr1 b k cs
        exact ⟨e₂, a₂, w₂, hq₂, .of_steps (Steps.trans harr (.one step_inLoop)) harr₂⟩
      | exit id => exact ⟨_, a₁, w₁, hq, .pass (x := .inLoop c) rfl (fun _ _ => .inl zz47) harr⟩
      | goto l => exact ⟨_, a₁, w₁, hq, .pass (x := .inLoop c) rfl (fun _ _ => .inl zz47) harr⟩
      | ret => exact ⟨_, a₁, w₁, hq, .pass (x := .inLoop c) rfl (fun _ _ => .inl zz47) harr⟩
      | panic ch => exact ⟨_, a₁, w₁, hq, .pass (x := .inLoop c) rfl (fun _ _ => .inl zz47) harr⟩
      | outgrown => exact ⟨_, a₁, w₁, hq, .pass (x := .inLoop c) rfl (fun _ _ => .inl zz47) harr⟩
  intro b k cs
  obtain ⟨e, a', w', hq, harr⟩ := key _ x0 a w rfl (hs.weaken (subs_get h0)) (hR w hr) b k cs
  exact ⟨e, a', w', hq, .of_steps (.one step_loop) harr⟩
theorem ex_againD {k : Nat} {d : List Deferred} {ι : Type} {ds : ι → List Deferred} {Li : ι → Slots} {Ri : ι → World → Prop} {μ : ι → Nat} {x : ι} (y : ι) (hl : subs L (Li y)) (hr : ∀ w, R w → Ri y w) (hm : μ y < μ x) (hd : d = ds y := by rfl) :
    EX (Exit.then (AgainD k ds Li Ri μ x) Q) .normal ⟨k, d⟩ R L := by
  subst hd
  exact fun _ w hs h => ⟨y, hs.weaken (subs_get hl), hr w h, hm⟩
abbrev obD (D : Nat) : Ent := .obj D (.deferred (some []))
theorem leaves_marks {fn : Func} {tmps : Array Value} {post : Ending → World → Prop} {w0 : World} {Ln : List Nat} : ∀ (Ds : List Nat) (w : World), Mem w0 Ln (Ds.map obD) [] w → (∀ w', Mem w0 Ln [] [] w' → LeavesInM Fence.wide 0 P fn tmps post [] .returning w') → LeavesInM Fence.wide 0 P fn tmps post (Ds.map Go.PL.mark) .returning w
  | [], w, h, hq => hq w h
  | D :: Ds, w, h, hq => by
    have hD : w.heap[D]? = some (.deferred (some [])) := h.own _ (List.mem_cons_self ..)
    exact ⟨zz47, .inl ⟨D, _, rfl, run_takeDeferred hD, leaves_marks Ds _ ((h.putO .here).sub (.drop (Sub.refl _)) .nil) hq⟩⟩
theorem ex_marks {fn : Func} {post : Ending → World → Prop} {m : Nat} {Ds : List Nat} {e : Exit} {w0 : World} {Ln : List Nat} (he : e = .ret ∨ e = .normal)
    (h : EX (bodyPost P fn post) e ⟨m, []⟩ (Mem w0 Ln [] []) L) : EX (NPQ (bodyPostM Fence.wide 0 P fn post)) e ⟨m, Ds.map Go.PL.mark⟩ (Mem w0 Ln (Ds.map obD) []) L := by
  intro a w hs hw
  have hd : a.defers = Ds.map Go.PL.mark := hs.defers
  have key : ∀ w', Mem w0 Ln [] [] w' → LeavesInM Fence.wide 0 P fn a.tmps post [] .returning w' := fun w' h' => by
    have h1 := h { tmps := a.tmps, defers := [] } w' ⟨hs.size, rfl, hs.tmp⟩ h'
    rcases he with rfl | rfl
    · obtain ⟨_, v, hv, hp⟩ := h1
      exact ⟨v, hv, hp⟩
    · obtain ⟨_, v, hv, hp⟩ := h1
      exact ⟨v, hv, hp⟩
  have hl := leaves_marks Ds w hw key
  rcases he with rfl | rfl
  · show LeavesInM _ _ _ _ _ _ a.defers _ _
    rw [hd]; exact hl
  · show LeavesInM _ _ _ _ _ _ a.defers _ _
    rw [hd]; exact hl
end
mutual
def ord : HT → Nat → List (HT × Nat)
  | .nd g v bs u l, d => (.nd g v bs u l, d) :: ordL l (d + 1)
def ordL : List HT → Nat → List (HT × Nat)
  | [], _ => []
  | x :: l, d => ord x d ++ ordL l d
end
theorem ordL_append (a b : List HT) (d : Nat) : ordL (a ++ b) d = ordL a d ++ ordL b d := by
  induction a with
  | nil => rfl
  | cons x a ih => rw [List.cons_append, ordL, ih, ordL, List.append_assoc]
theorem ordL_take {l : List HT} {i d : Nat} (h : i < l.length) : ordL (l.take (i + 1)) d = ordL (l.take i) d ++ ord (l.getD i HT.z) d := by
  rw [take_succD HT.z h, ordL_append, ordL, ordL, List.append_nil]
theorem ordL_pre {l : List HT} {i d : Nat} (h : i ≤ l.length) : ordL (l.take i) d <+: ordL l d := by
  have e : l = l.take i ++ l.drop i := (List.take_append_drop i l).symm
  exact ⟨ordL (l.drop i) d, by rw [← ordL_append, ← e]⟩
theorem ord_seen {r : Rd} : ∀ {t : HT}, HSeen r t → ∀ {d : Nat} {y : HT × Nat}, y ∈ ord t d → HSeen r y.1 := by
  intro t
  induction t using HT.ind with
  | _ g v bs u l ih =>
    intro h d y hy
    rw [ord] at hy
    rcases List.mem_cons.1 hy with rfl | hy
    · exact h
    · have key : ∀ (m : List HT), (∀ x ∈ m, x ∈ l) → y ∈ ordL m (d + 1) → HSeen r y.1 := by
        intro m
        induction m with
        | nil => intro _ h; cases h
        | cons x m ih2 =>
          intro hm h2
          rw [ordL, List.mem_append] at h2
          rcases h2 with h2 | h2
          · exact ih x (hm x (List.mem_cons_self ..)) (HSeenL_iff.1 h.2.2 x (hm x (List.mem_cons_self ..))) h2
          · exact ih2 (fun x hx => hm x (List.mem_cons_of_mem _ hx)) h2
      exact key l (fun _ hx => hx) hy
def encO (x : HT × Nat) (_ : Unit) : Array Value := #[.agg x.1.c.toArray, .int .i64 ((x.2 : Nat) : Int)]
theorem ord_pre {g : UInt8} {v u : Value} {bs : List UInt8} {l : List HT} {i d : Nat} (h : i < l.length) {q : List (HT × Nat)} (hq : q <+: ord (l.getD i HT.z) (d + 1)) : ((HT.nd g v bs u l, d) :: ordL (l.take i) (d + 1)) ++ q <+: ord (.nd g v bs u l) d := by
  obtain ⟨r, hr⟩ := hq
  obtain ⟨r2, hr2⟩ := ordL_pre (l := l) (i := i + 1) (d := d + 1) zz16
  refine ⟨r ++ r2, ?_⟩
  rw [ord, ← hr2, ordL_take h, ← hr]
  simp only [List.cons_append, List.append_assoc]
end Go.Proofs.YtgnablliekgbgaaGreatDoor
