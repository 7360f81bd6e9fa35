/- What the statement reaches, in order. -/
import Derived.Test.YtgnablliekgbgaaGreatDoorMXPLN
import Derived.Test.YtgnablliekgbgaaGreatDoorMXPLL
import Derived.Test.YtgnablliekgbgaaGreatDoorMXTI
import Derived.Lib.BufferRead
import Derived.Lib.ConvBytes
import Derived.Laws.IdiomStrings
import Derived.Test.YtgnablliekgbgaaGreatDoorMXPLH
import Derived.Test.YtgnablliekgbgaaGreatDoorMXPLI
import Derived.Test.YtgnablliekgbgaaGreatDoorMXPLZ
import Derived.WalkKit
import Derived.ProofKit
import Derived.OpenShut
import Derived.ChangeOld
import Derived.Below
import Derived.Carry
import Derived.LaidMore
import Derived.Deep.DeepHandedRow
import Derived.Deep.DeepWitnessRowRef
import Derived.Lib.LaidTab
import Derived.Stop.Joined
import Derived.Test.YtgnablliekgbgaaGreatDoorMX4
set_option linter.unusedSimpArgs false
set_option linter.unusedVariables false
set_option maxRecDepth 100000
namespace Go.Proofs.YtgnablliekgbgaaGreatDoor
open Go Go.PL Go.RowKit
theorem digs_one (s : List UInt8) (i : Nat) : digs s i ++ [digN s i] = digs s (i + 1) := (digs_succ s i).symm
theorem dsum_one (s : List UInt8) (i : Nat) : dsum s i + 15 - digN s i = dsum s (i + 1) := by
  have := digN_le s i
  rw [dsum]; omega
theorem take_oneMm (xs : List UInt8) (i : Nat) (h : i < xs.length) : xs.take i ++ [xs.getD i 0] = xs.take (i + 1) := by
  rw [List.take_add_one, List.getD_eq_getElem?_getD, List.getElem?_eq_getElem h]; rfl
def uptoMm (l : List (List UInt8)) (i k : Nat) : List UInt8 := (l.take i).flatten ++ (l.getD i []).take k
theorem upto_stepMm (l : List (List UInt8)) (i k : Nat) (h : ∀ x ∈ l, x.length = 16) (hi : i < l.length) (hk : k < 16) : uptoMm l i k ++ [(l.getD i []).getD k 0] = uptoMm l i (k + 1) := by
  unfold uptoMm; rw [List.append_assoc, take_oneMm _ _ (by rw [getD_mem_len h hi]; exact hk)]
theorem upto_nextMm (l : List (List UInt8)) (i : Nat) (h : ∀ x ∈ l, x.length = 16) (hi : i < l.length) : uptoMm l i 16 = uptoMm l (i + 1) 0 := by
  unfold uptoMm
  have e : (l.getD i []).take 16 = l.getD i [] := List.take_of_length_le (by rw [getD_mem_len h hi]; omega)
  rw [List.take_zero, List.append_nil, take_succ_flatMm l i hi, e]
theorem upto_len (l : List (List UInt8)) (i k : Nat) (h : ∀ x ∈ l, x.length = 16) : (uptoMm l i k).length ≤ l.length * 16 + 16 := by
  unfold uptoMm
  have h1 := flat_le l i
  rw [flat_len l h] at h1
  rw [List.length_append, List.length_take]
  by_cases hi : i < l.length
  · rw [getD_mem_len h hi]; omega
  · rw [List.getD_eq_getElem?_getD, List.getElem?_eq_none zz16]
    have : min k (([] : List UInt8)).length = 0 := by simp
    show _ + min k (([] : List UInt8)).length ≤ _
    omega
def kacc (E : Nat → List UInt8) (n : Nat) : List (List UInt8) := (List.range n).map E
theorem kacc_succ (E : Nat → List UInt8) (n : Nat) : kacc E (n + 1) = kacc E n ++ [E n] := by simp [kacc, List.range_succ]
theorem kacc_length (E : Nat → List UInt8) (n : Nat) : (kacc E n).length = n := by simp [kacc]
theorem kacc_all (E : Nat → List UInt8) (n : Nat) (h : ∀ i, i < n → (E i).length = 16) : ∀ x ∈ kacc E n, x.length = 16 := by
  intro x hx
  obtain ⟨i, hi, rfl⟩ := List.mem_map.1 hx
  exact h i (List.mem_range.1 hi)
theorem refDigits (bv : Value) (bs : List UInt8) (w : World) (hbv : Seen w.cell? bv bs.length 1 (v8s bs)) (hlb : bs.length ≤ 1000000000) :
    Calls Tryz.prog 67 [bv].toArray w (GivesP w (fun v => SV v 35) (fun v : Value => v) (fun v => [.row v 35 3 1 (vns (digsF (shortF bs)))]) (fun _ => [])) := by
  have sbv := hbv.sv
  have lbv := sbv.le
  simp only [maxLen] at lbv
  refine enter (m := 47) (R := Mem w [] [] []) Tryz.func67 rfl rfl (Nat.le_of_ble_eq_true rfl) (Mem.start w) ?_
  refine wpc_seq <| wpc_region <| wpl_q (q_pure rfl) rfl <| wpl_nil <| ex_then <| wpc_seq <| wpc_region <| wpl_q (q_pure rfl) rfl ?_
  refine wpl_t (t_pur Tryz.hb69 rfl fun w h => refShort _ _ w zz15 zz1) rfl (fun b9 => ?_)
  refine wpl_t (t_alloc Tryz.ti32 (v8s (List.replicate 16 0)) (by rfl)) rfl (fun b3 => ?_)
  refine wpl_t0 (t_stA Tryz.ti32 rfl rfl zz0 (v8s_one _) zz0) (fun _ => ?_)
  refine wpl_nil <| ex_then <| wpc_seq <| wpc_region <| wpl_q (q_pure rfl) rfl <| wpl_nil <| ex_then <| wpc_seq <| wpc_region <| wpl_q (q_pure rfl) rfl <| wpl_nil <| ex_then ?_
  refine wpc_seq <| wpc_seq <| wpc_region <| wpl_q (q_pure rfl) rfl <| wpl_nil <| ex_then <| wpc_block ?_
  refine wpc_loopc (ι := { x : Nat × Value // (x.1 ≤ 32) ∧ (SV x.2 x.1) }) [(3, _)] (fun x Lc => (6, .int .i64 ((x.1.1 : Nat) : Int)) :: (4, x.1.2) :: (5, .int .i64 ((dsum (shortF bs) x.1.1 : Nat) : Int)) :: Lc) (fun x => Mem w [] [.row x.1.2 x.1.1 3 1 (vns (digs (shortF bs) x.1.1)), .blk b3 32 (v8s (shortF bs))] []) (fun x => 32 - x.1.1) ⟨(0, .slice none 0 0), ⟨Nat.zero_le _, SV.nil⟩⟩ zz10 ?_ ?_
  ·
   exact fun w h => h.nilRow 3 1
  ·
   rintro ⟨⟨i, v⟩, ⟨hi0, hi1⟩⟩; try dsimp only
   have hi0 : i ≤ 32 := hi0; have hi1 : SV v i := hi1
   have hds := dsum_le (shortF bs) i
   have hsl := shortF_length bs
   have hx3 := ((shortF bs).getD (i / 2) 0).toNat_lt
   have hdn := digN_le (shortF bs) i
   refine wpc_seq <| wpc_seq <| wpc_region <| wpl_q (q_pure rfl) rfl <| wpl_q (q_pure rfl) rfl <| wpl_nil <| ex_then ?_
   refine wpc_cond rfl (fun hc11 => ?_) (fun hc11 => ?_)
   ·
    try simp only [decide_eq_true_eq, decide_eq_false_iff_not, Bool.and_eq_true, Bool.or_eq_true, beq_iff_eq, bne_iff_ne, ne_eq, Bool.not_eq_true', Bool.not_eq_false', Decidable.not_not] at hc11
    refine wpc_skip <| ex_then <| wpc_seq <| wpc_block <| wpc_seq <| wpc_region <| wpl_q (q_pure rfl) rfl ?_
    refine wpl_q (q_quoN (b := 2) rfl rfl zz26 zz1) rfl ?_
    refine wpl_q (q_idxA1 Tryz.underlying32 Tryz.ti5 rfl rfl zz16) rfl ?_
    refine wpl_q (q_ld Tryz.underlying5 rfl rfl zz38) rfl ?_
    refine wpl_q (q8_int Tryz.underlying5 Tryz.underlying3 rfl) rfl ?_
    refine wpl_q (q_remN (b := 16) rfl rfl zz26) rfl ?_
    refine wpl_q (q_pure rfl) rfl <| wpl_nil <| ex_then ?_
    refine wpc_cutc ({ x : Unit // True }) [(3, .pointer (some ⟨b3, 0, none⟩)), (4, v), (5, .int .i64 ((dsum (shortF bs) i : Nat) : Int)), (6, .int .i64 ((i : Nat) : Int))] (fun x Lc => (7, .int .i64 ((digN (shortF bs) i : Nat) : Int)) :: Lc) (fun x => Mem w [] [.row v i 3 1 (vns (digs (shortF bs) i)), .blk b3 32 (v8s (shortF bs))] []) ?_ ?_
    ·
     refine wpc_seq <| wpc_region <| wpl_q (q_pure rfl) rfl ?_
     refine wpl_q (q_remN (b := 2) rfl rfl zz26) rfl ?_
     refine wpl_q (q_pure rfl) rfl <| wpl_nil <| ex_then ?_
     refine wpc_cond rfl (fun hc22 => ?_) (fun hc22 => ?_)
     ·
      simp only [decide_eq_true_eq, beq_iff_eq] at hc22
      have hev : i % 2 = 0 := by omega
      have hd : ((shortF bs).getD (i / 2) 0).toNat / 16 = digN (shortF bs) i := by unfold digN; rw [if_pos hev]
      refine wpc_region <| wpl_q (q_pure rfl) rfl ?_
      refine wpl_q (q_quoN (b := 2) rfl rfl zz26 zz1) rfl ?_
      refine wpl_q (q_idxA1 Tryz.underlying32 Tryz.ti5 rfl rfl zz16) rfl ?_
      refine wpl_q (q_ld Tryz.underlying5 rfl rfl zz38) rfl ?_
      refine wpl_q (q8_int Tryz.underlying5 Tryz.underlying3 rfl) rfl ?_
      refine wpl_q (q_quoN (b := 16) rfl rfl zz26 zz1) rfl ?_
      rw [hd]
      refine wpl_q (q_pure rfl) rfl <| wpl_nil ?_
      refine ex_mid ⟨(), trivial⟩ ?_ ?_
      ·
       exact zz10
      ·
       exact fun w h => by first | exact h | exact h.sub SubC.h SubC.h | exact h.sub zz6 zz6
     ·
      simp only [decide_eq_false_iff_not, beq_eq_false_iff_ne, ne_eq] at hc22
      have hod : ¬ i % 2 = 0 := by omega
      have hd : ((shortF bs).getD (i / 2) 0).toNat % 16 = digN (shortF bs) i := by unfold digN; rw [if_neg hod]
      rw [hd]
      refine wpc_skip ?_
      refine ex_mid ⟨(), trivial⟩ ?_ ?_
      ·
       exact zz10
      ·
       exact fun w h => by first | exact h | exact h.sub SubC.h SubC.h | exact h.sub zz6 zz6
    ·
     rintro ⟨_, _⟩; try dsimp only
     refine wpc_seq <| wpc_region <| wpl_q (q_pure rfl) rfl <| wpl_q (q_pure rfl) rfl ?_
     refine wpl_tp (t_bsV (vns [_]) Tryz.underlying97 Tryz.ti3 rfl rfl zz22 zz22 rfl (vns_one _)) rfl (fun b31 p31 => ?_)
     refine wpl_tp (t_apW Tryz.underlying97 Tryz.ti3 rfl zz22 rfl rfl (fun w h => zz12) (vns_one _) zz1 zz1 _ zz18) rfl (fun b32 p32 => ?_)
     refine wpl_q (q_pure rfl) rfl <| wpl_nil <| ex_then <| wpc_region <| wpl_q (q_pure rfl) rfl ?_
     refine wpl_q (q_addN (b := 15) rfl rfl zz1) rfl ?_
     refine wpl_q (q_pure rfl) rfl ?_
     refine wpl_q (q_subN rfl rfl zz16 zz1) rfl ?_
     rw [dsum_one]
     refine wpl_q (q_pure rfl) rfl <| wpl_nil <| ex_block <| ex_then <| wpc_region <| wpl_q (q_pure rfl) rfl ?_
     refine wpl_q (q_addN (b := 1) rfl rfl zz1) rfl ?_
     refine wpl_q (q_pure rfl) rfl <| wpl_nil ?_
     refine ex_again ⟨(i + 1, b32), ⟨zz16, p32⟩⟩ ?_ ?_ ?_
     ·
      exact zz10
     ·
      exact fun w h => by
        dsimp only
        rw [← digs_one]
        first | exact h.sub SubC.h SubC.h | exact h.sub zz6 zz6
     ·
      (show 32 - (i + 1) < 32 - i); omega
   ·
    simp only [decide_eq_false_iff_not] at hc11
    obtain rfl : i = 32 := by omega
    refine wpc_exit ?_
    refine ex_then_exit ?_
    refine ex_then_exit ?_
    refine ex_block_hit ?_
    refine ex_then <| wpc_seq <| wpc_region <| wpl_q (q_pure rfl) rfl <| wpl_q (q_pure rfl) rfl ?_
    refine wpl_q (q_quoN (b := 256) rfl rfl zz26 zz1) rfl ?_
    refine wpl_q (q_pure rfl) rfl ?_
    refine wpl_q (q_quoN (b := 16) rfl rfl zz26 zz1) rfl ?_
    refine wpl_q (q_remN (b := 16) rfl rfl zz26) rfl ?_
    refine wpl_q (q_pure rfl) rfl ?_
    refine wpl_q (q_remN (b := 16) rfl rfl zz26) rfl ?_
    refine wpl_tp (t_bsV (vns [_, _, _]) Tryz.underlying97 Tryz.ti3 rfl rfl zz22 zz22 rfl (vns_one _)) rfl (fun b45 p45 => ?_)
    refine wpl_tp (t_apW Tryz.underlying97 Tryz.ti3 rfl zz22 rfl rfl (fun w h => zz12) (vns_one _) zz1 zz1 (vns (digsF (shortF bs))) (by rw [← vns_append]; rfl)) rfl (fun b46 p46 => ?_)
    refine wpl_q (q_pure rfl) rfl <| wpl_nil <| ex_then <| wpc_ret ?_
    refine ret1 (.inl rfl) rfl rfl ?_
    exact fun w h => ⟨b46, p46, rfl, h.below, h.made SubC.h SubC.h⟩
theorem refStep (xs : List UInt8) (i : Nat) (j : Nat) (w : World) (hxs : xs.length = 16)  :
    Calls Tryz.prog 91 [.agg (v8s xs).toArray, .int .i64 ((i : Nat) : Int), .int .i64 ((j : Nat) : Int)].toArray w (Pur w (.agg (v8s (stepF xs i j)).toArray)) := by
  refine enter (m := 27) (R := Mem w [] [] []) Tryz.func91 rfl rfl (Nat.le_of_ble_eq_true rfl) (Mem.start w) ?_
  refine wpc_seq <| wpc_region ?_
  refine wpl_t (t_box rfl (v8s xs) rfl) rfl (fun b3 => ?_)
  refine wpl_t (t_alloc Tryz.ti32 (v8s (List.replicate 16 0)) (by rfl)) rfl (fun b6 => ?_)
  refine wpl_nil <| ex_then <| wpc_seq <| wpc_region <| wpl_q (q_pure rfl) rfl <| wpl_nil <| ex_then <| wpc_seq <| wpc_seq <| wpc_region <| wpl_q (q_pure rfl) rfl <| wpl_nil ?_
  refine ex_then <| wpc_block ?_
  refine wpc_loopc (ι := { x : Nat × Value // (x.1 ≤ 16) ∧ (SV x.2 x.1) }) [(1, _), (2, _), (3, _), (6, _)] (fun x Lc => (8, .int .i64 ((x.1.1 : Nat) : Int)) :: (7, x.1.2) :: Lc) (fun x => Mem w [] [.row x.1.2 x.1.1 5 1 (v8s (xs.take x.1.1)), .blk b6 32 (v8s (List.replicate 16 0)), .blk b3 32 (v8s xs)] []) (fun x => 16 - x.1.1) ⟨(0, .slice none 0 0), ⟨Nat.zero_le _, SV.nil⟩⟩ zz10 ?_ ?_
  ·
   exact fun w h => h.nilRow 5 1
  ·
   rintro ⟨⟨k, v⟩, ⟨hi0, hi1⟩⟩; try dsimp only
   have hi0 : k ≤ 16 := hi0; have hi1 : SV v k := hi1
   refine wpc_seq <| wpc_seq <| wpc_region <| wpl_q (q_pure rfl) rfl <| wpl_q (q_pure rfl) rfl <| wpl_nil <| ex_then ?_
   refine wpc_cond rfl (fun hc10 => ?_) (fun hc10 => ?_)
   ·
    try simp only [decide_eq_true_eq, decide_eq_false_iff_not, Bool.and_eq_true, Bool.or_eq_true, beq_iff_eq, bne_iff_ne, ne_eq, Bool.not_eq_true', Bool.not_eq_false', Decidable.not_not] at hc10
    refine wpc_skip <| ex_then <| wpc_seq <| wpc_block <| wpc_region <| wpl_q (q_pure rfl) rfl <| wpl_q (q_pure rfl) rfl ?_
    refine wpl_q (q_idxA1 Tryz.underlying32 Tryz.ti5 rfl rfl zz16) rfl ?_
    refine wpl_q (q_ld Tryz.underlying5 rfl rfl zz38) rfl ?_
    refine wpl_tp (t_bsV (v8s [_]) Tryz.underlying49 Tryz.ti5 rfl rfl zz22 zz22 rfl (v8s_one _)) rfl (fun b17 p17 => ?_)
    refine wpl_tp (t_apW Tryz.underlying49 Tryz.ti5 rfl zz22 rfl rfl (fun w h => zz12) (v8s_one _) zz1 zz1 _ zz18) rfl (fun b18 p18 => ?_)
    refine wpl_q (q_pure rfl) rfl <| wpl_nil <| ex_block <| ex_then <| wpc_region <| wpl_q (q_pure rfl) rfl ?_
    refine wpl_q (q_addN (b := 1) rfl rfl zz1) rfl ?_
    refine wpl_q (q_pure rfl) rfl <| wpl_nil ?_
    refine ex_again ⟨(k + 1, b18), ⟨zz16, p18⟩⟩ ?_ ?_ ?_
    ·
     exact zz10
    ·
     exact fun w h => by
       dsimp only
       rw [← take_oneMm xs k zz16]
       first | exact h.sub SubC.h SubC.h | exact h.sub zz6 zz6
    ·
     (show 16 - (k + 1) < 16 - k); omega
   ·
    simp only [decide_eq_false_iff_not] at hc10
    obtain rfl : k = 16 := by omega
    have htk : xs.take 16 = xs := List.take_of_length_le zz16
    rw [htk]
    refine wpc_exit ?_
    refine ex_then_exit ?_
    refine ex_then_exit ?_
    refine ex_block_hit ?_
    refine ex_then <| wpc_seq <| wpc_region <| wpl_q (q_pure rfl) rfl <| wpl_q (q_pure rfl) rfl <| wpl_q (q8_conv Tryz.underlying3 Tryz.underlying5 rfl) rfl <| wpl_q (q_pure rfl) rfl <| wpl_q (q8_conv Tryz.underlying3 Tryz.underlying5 rfl) rfl ?_
    refine wpl_tp (t_bsV (v8s [_, _]) Tryz.underlying49 Tryz.ti5 rfl rfl zz22 zz22 rfl (v8s_one _)) rfl (fun b24 p24 => ?_)
    refine wpl_tp (t_apW Tryz.underlying49 Tryz.ti5 rfl zz22 rfl rfl (fun w h => zz12) (v8s_one _) zz1 zz1 _ zz18) rfl (fun b25 p25 => ?_)
    refine wpl_t (t_pur Tryz.hb69 rfl fun w h => refShort _ _ w zz15 zz1) rfl (fun b26 => ?_)
    refine wpl_t0 (t_stA Tryz.ti32 rfl rfl zz0 (v8s_one _) zz0) (fun _ => ?_)
    refine wpl_nil <| ex_then <| wpc_ret ?_
    refine retv1 (.inl rfl) rfl (rv_agg Tryz.underlying32 rfl Tryz.ti32 rfl (fun w h => h.atB) zz0) ?_
    exact fun w h => ⟨rfl, h.below⟩
theorem refChain (xs : List UInt8) (i : Nat) (t : Nat) (w : World) (hxs : xs.length = 16) (ht : t ≤ 1000) :
    Calls Tryz.prog 68 [.agg (v8s xs).toArray, .int .i64 ((i : Nat) : Int), .int .i64 ((t : Nat) : Int)].toArray w (Pur w (.agg (v8s (chainF xs i t)).toArray)) := by
  refine enter (m := 22) (R := Mem w [] [] []) Tryz.func68 rfl rfl (Nat.le_of_ble_eq_true rfl) (Mem.start w) ?_
  refine wpc_seq <| wpc_region ?_
  refine wpl_t (t_box rfl (v8s xs) rfl) rfl (fun b3 => ?_)
  refine wpl_t (t_alloc Tryz.ti32 (v8s (List.replicate 16 0)) (by rfl)) rfl (fun b6 => ?_)
  refine wpl_nil <| ex_then <| wpc_seq <| wpc_region ?_
  refine wpl_q (q_ldN Tryz.underlying32 rfl Tryz.ti32 rfl zz0) rfl ?_
  refine wpl_q (q_pure rfl) rfl ?_
  refine wpl_t (t_pur Tryz.hb91 rfl fun w h => refStep _ _ 255 w zz11) rfl (fun b11 => ?_)
  refine wpl_t (t_alloc Tryz.ti32 (v8s (List.replicate 16 0)) (by rfl)) rfl (fun b7 => ?_)
  refine wpl_t0 (t_stA Tryz.ti32 rfl rfl zz0 (v8s_one _) zz0) (fun _ => ?_)
  refine wpl_nil <| ex_then <| wpc_seq <| wpc_seq <| wpc_region <| wpl_q (q_pure rfl) rfl <| wpl_nil <| ex_then <| wpc_block ?_
  refine wpc_loopc (ι := { x : Nat // (x ≤ t) }) [(1, _), (2, _), (6, _), (7, _)] (fun x Lc => (8, .int .i64 ((x.1 : Nat) : Int)) :: Lc) (fun x => Mem w [] [.blk b7 32 (v8s (chainF xs i x.1)), .blk b6 32 (v8s (List.replicate 16 0)), .blk b3 32 (v8s xs)] []) (fun x => t - x.1) ⟨0, zz19⟩ zz10 ?_ ?_
  ·
   exact fun w h => h
  ·
   rintro ⟨n, hi0⟩; try dsimp only
   have hi0 : n ≤ t := hi0
   have hcl := chainF_length xs i n
   refine wpc_seq <| wpc_seq <| wpc_region <| wpl_q (q_pure rfl) rfl <| wpl_q (q_pure rfl) rfl <| wpl_q (q_pure rfl) rfl <| wpl_nil <| ex_then ?_
   refine wpc_cond rfl (fun hc14 => ?_) (fun hc14 => ?_)
   ·
    simp only [decide_eq_true_eq] at hc14
    refine wpc_skip <| ex_then <| wpc_seq <| wpc_block <| wpc_region ?_
    refine wpl_q (q_ldN Tryz.underlying32 rfl Tryz.ti32 rfl zz0) rfl ?_
    refine wpl_q (q_pure rfl) rfl <| wpl_q (q_pure rfl) rfl ?_
    refine wpl_t (t_pur Tryz.hb91 rfl fun w h => refStep _ _ _ w zz11) rfl (fun b20 => ?_)
    refine wpl_t0 (t_stA Tryz.ti32 rfl rfl zz0 (v8s_one _) zz0) (fun _ => ?_)
    refine wpl_nil <| ex_block <| ex_then <| wpc_region <| wpl_q (q_pure rfl) rfl ?_
    refine wpl_q (q_addN (b := 1) rfl rfl zz1) rfl ?_
    refine wpl_q (q_pure rfl) rfl <| wpl_nil ?_
    refine ex_again ⟨n + 1, zz19⟩ ?_ ?_ ?_
    ·
     exact zz10
    ·
     exact fun w h => by
       have e : stepF (chainF xs i n) i n = chainF xs i (n + 1) := by rw [chainF, chainF, climbF, Nat.zero_add]
       rw [e] at h; exact h
    ·
     (show t - (n + 1) < t - n); omega
   ·
    simp only [decide_eq_false_iff_not] at hc14
    obtain rfl : n = t := by omega
    refine wpc_exit ?_
    refine ex_then_exit ?_
    refine ex_then_exit ?_
    refine ex_block_hit ?_
    refine ex_then <| wpc_seq <| wpc_region ?_
    refine wpl_q (q_ldN Tryz.underlying32 rfl Tryz.ti32 rfl zz0) rfl ?_
    refine wpl_t0 (t_stA Tryz.ti32 rfl rfl zz0 (v8s_one _) zz0) (fun _ => ?_)
    refine wpl_nil <| ex_then <| wpc_ret ?_
    refine retv1 (.inl rfl) rfl (rv_agg Tryz.underlying32 rfl Tryz.ti32 rfl (fun w h => h.atB) zz0) ?_
    exact fun w h => ⟨rfl, h.below⟩
theorem refJoined (cv : Value) (l : List (List UInt8)) (w : World) (hcv : Seen w.cell? cv l.length 16 (v8s l.flatten)) (hll : ∀ x ∈ l, x.length = 16) (hlb : l.length ≤ 1000000) :
    Calls Tryz.prog 93 [cv].toArray w (Pur w (.agg (v8s (shortF l.flatten)).toArray)) := by
  have scv := hcv.sv
  have lcv := scv.le
  simp only [maxLen] at lcv
  refine enter (m := 27) (R := Mem w [] [] []) Tryz.func93 rfl rfl (Nat.le_of_ble_eq_true rfl) (Mem.start w) ?_
  refine wpc_seq <| wpc_region ?_
  refine wpl_t (t_alloc Tryz.ti32 (v8s (List.replicate 16 0)) (by rfl)) rfl (fun b2 => ?_)
  refine wpl_nil <| ex_then <| wpc_seq <| wpc_region <| wpl_q (q_pure rfl) rfl <| wpl_nil <| ex_then <| wpc_seq <| wpc_seq <| wpc_region <| wpl_q (q_pure rfl) rfl <| wpl_nil ?_
  refine ex_then <| wpc_block ?_
  refine wpc_loopc (ι := { x : Nat × Value // (x.1 ≤ l.length) ∧ (SV x.2 (uptoMm l x.1 0).length) }) [(0, _), (2, _)] (fun x Lc => (4, .int .i64 ((x.1.1 : Nat) : Int)) :: (3, x.1.2) :: Lc) (fun x => Mem w [] [.row x.1.2 (uptoMm l x.1.1 0).length 5 1 (v8s (uptoMm l x.1.1 0)), .blk b2 32 (v8s (List.replicate 16 0))] []) (fun x => l.length - x.1.1) ⟨(0, .slice none 0 0), ⟨Nat.zero_le _, SV.nil⟩⟩ zz10 ?_ ?_
  ·
   exact fun w h => h.nilRow 5 1
  ·
   rintro ⟨⟨i, v⟩, ⟨hi0, hi1⟩⟩; try dsimp only
   have hi0 : i ≤ l.length := hi0; have hi1 : SV v (uptoMm l i 0).length := hi1
   refine wpc_seq <| wpc_seq <| wpc_region <| wpl_q (q_pure rfl) rfl <| wpl_q (q_pure rfl) rfl ?_
   refine wpl_q (q_lenW Tryz.underlying26 rfl zz5) rfl ?_
   refine wpl_q (q_pure rfl) rfl <| wpl_nil <| ex_then ?_
   refine wpc_cond rfl (fun hc9 => ?_) (fun hc9 => ?_)
   ·
    simp only [decide_eq_true_eq] at hc9
    have hil : i < l.length := by omega
    have hgl := getD_mem_len hll hil
    have hiv := hi1
    refine wpc_skip <| ex_then <| wpc_seq <| wpc_block <| wpc_seq <| wpc_region <| wpl_q (q_pure rfl) rfl <| wpl_nil <| ex_then <| wpc_block ?_
    refine wpc_loopc (ι := { x : Nat × Value // (x.1 ≤ 16) ∧ (SV x.2 (uptoMm l i x.1).length) }) [(0, _), (2, _), (4, _)] (fun x Lc => (5, .int .i64 ((x.1.1 : Nat) : Int)) :: (3, x.1.2) :: Lc) (fun x => Mem w [] [.row x.1.2 (uptoMm l i x.1.1).length 5 1 (v8s (uptoMm l i x.1.1)), .blk b2 32 (v8s (List.replicate 16 0))] []) (fun x => 16 - x.1.1) ⟨(0, v), ⟨Nat.zero_le _, hiv⟩⟩ zz10 ?_ ?_
    ·
     exact fun w h => h
    ·
     rintro ⟨⟨k, v1⟩, ⟨hi0, hi1⟩⟩; try dsimp only
     have hi0 : k ≤ 16 := hi0; have hi1 : SV v1 (uptoMm l i k).length := hi1
     have hul := upto_len l i k hll
     refine wpc_seq <| wpc_seq <| wpc_region <| wpl_q (q_pure rfl) rfl <| wpl_q (q_pure rfl) rfl <| wpl_nil <| ex_then ?_
     refine wpc_cond rfl (fun hc13 => ?_) (fun hc13 => ?_)
     ·
      try simp only [decide_eq_true_eq, decide_eq_false_iff_not, Bool.and_eq_true, Bool.or_eq_true, beq_iff_eq, bne_iff_ne, ne_eq, Bool.not_eq_true', Bool.not_eq_false', Decidable.not_not] at hc13
      refine wpc_skip <| ex_then <| wpc_seq <| wpc_block <| wpc_region <| wpl_q (q_pure rfl) rfl <| wpl_q (q_pure rfl) rfl <| wpl_q (q_pure rfl) rfl <| wpl_q (q_pure rfl) rfl ?_
      refine wpl_q (q_idxW Tryz.underlying26 Tryz.ti32 rfl rfl zz5 zz1) rfl ?_
      refine wpl_q (q_idxP1 Tryz.underlying32 Tryz.ti5 rfl rfl zz16) rfl ?_
      refine wpl_q (q_ldWF Tryz.underlying5 rfl rfl (fun w h => zz12) (get2 hll hil zz16)) rfl ?_
      refine wpl_tp (t_bsV (v8s [_]) Tryz.underlying49 Tryz.ti5 rfl rfl zz22 zz22 rfl (v8s_one _)) rfl (fun b23 p23 => ?_)
      refine wpl_tp (t_apW Tryz.underlying49 Tryz.ti5 rfl zz22 rfl rfl (fun w h => zz12) (v8s_one _) zz1 zz1 _ zz18) rfl (fun b24 p24 => ?_)
      refine wpl_q (q_pure rfl) rfl <| wpl_nil <| ex_block <| ex_then <| wpc_region <| wpl_q (q_pure rfl) rfl ?_
      refine wpl_q (q_addN (b := 1) rfl rfl zz1) rfl ?_
      refine wpl_q (q_pure rfl) rfl <| wpl_nil ?_
      refine ex_again ⟨(k + 1, b24), ⟨zz16, by rw [← upto_stepMm l i k hll hil zz16, List.length_append]; exact p24⟩⟩ ?_ ?_ ?_
      ·
       exact zz10
      ·
       exact fun w h => by
         dsimp only
         rw [← upto_stepMm l i k hll hil zz16, List.length_append]; first | exact h.sub SubC.h SubC.h | exact h.sub zz6 zz6
      ·
       (show 16 - (k + 1) < 16 - k); omega
     ·
      simp only [decide_eq_false_iff_not] at hc13
      obtain rfl : k = 16 := by omega
      refine wpc_exit ?_
      refine ex_then_exit ?_
      refine ex_then_exit ?_
      refine ex_block_hit ?_
      refine ex_block <| ex_then <| wpc_region <| wpl_q (q_pure rfl) rfl ?_
      refine wpl_q (q_addN (b := 1) rfl rfl zz1) rfl ?_
      refine wpl_q (q_pure rfl) rfl <| wpl_nil ?_
      refine ex_again ⟨(i + 1, v1), ⟨zz16, by rw [← upto_nextMm l i hll hil]; exact hi1⟩⟩ ?_ ?_ ?_
      ·
       exact zz10
      ·
       exact fun w h => by
         dsimp only
         rw [← upto_nextMm l i hll hil]; exact h
      ·
       (show l.length - (i + 1) < l.length - i); omega
   ·
    simp only [decide_eq_false_iff_not] at hc9
    obtain rfl : i = l.length := by omega
    have hfl : l.flatten.length = l.length * 16 := flat_len l hll
    have hup : uptoMm l l.length 0 = l.flatten := by unfold uptoMm; rw [List.take_zero, List.append_nil, List.take_of_length_le (Nat.le_refl _)]
    refine wpc_mono (R' := Mem w [] [.row v l.flatten.length 5 1 (v8s l.flatten), .blk b2 32 (v8s (List.replicate 16 0))] []) (fun _ h => by rw [hup] at h; exact h) ?_
    refine wpc_exit ?_
    refine ex_then_exit ?_
    refine ex_then_exit ?_
    refine ex_block_hit ?_
    refine ex_then <| wpc_seq <| wpc_region <| wpl_q (q_pure rfl) rfl ?_
    refine wpl_t (t_pur Tryz.hb69 rfl fun w h => refShort _ _ w zz15 zz1) rfl (fun b26 => ?_)
    refine wpl_t0 (t_stA Tryz.ti32 rfl rfl zz0 (v8s_one _) zz0) (fun _ => ?_)
    refine wpl_nil <| ex_then <| wpc_ret ?_
    refine retv1 (.inl rfl) rfl (rv_agg Tryz.underlying32 rfl Tryz.ti32 rfl (fun w h => h.atB) zz0) ?_
    exact fun w h => ⟨rfl, h.below⟩
theorem refPublic (xs : List UInt8) (w : World) (hxs : xs.length = 16)  :
    Calls Tryz.prog 71 [.agg (v8s xs).toArray].toArray w (Pur w (.agg (v8s (publicF xs)).toArray)) := by
  refine enter (m := 17) (R := Mem w [] [] []) Tryz.func71 rfl rfl (Nat.le_of_ble_eq_true rfl) (Mem.start w) ?_
  refine wpc_seq <| wpc_region ?_
  refine wpl_t (t_box rfl (v8s xs) rfl) rfl (fun b1 => ?_)
  refine wpl_t (t_alloc Tryz.ti32 (v8s (List.replicate 16 0)) (by rfl)) rfl (fun b2 => ?_)
  refine wpl_nil <| ex_then <| wpc_seq <| wpc_region <| wpl_q (q_pure rfl) rfl <| wpl_nil <| ex_then <| wpc_seq <| wpc_seq <| wpc_region <| wpl_q (q_pure rfl) rfl <| wpl_nil ?_
  refine ex_then <| wpc_block ?_
  refine wpc_loopc (ι := { x : Nat × Value // (x.1 ≤ 35) ∧ (SV x.2 x.1) }) [(1, _), (2, _)] (fun x Lc => (4, .int .i64 ((x.1.1 : Nat) : Int)) :: (3, x.1.2) :: Lc) (fun x => Mem w [] [.row x.1.2 x.1.1 32 16 (v8s (kacc (fun q => chainF xs q 15) x.1.1).flatten), .blk b2 32 (v8s (List.replicate 16 0)), .blk b1 32 (v8s xs)] []) (fun x => 35 - x.1.1) ⟨(0, .slice none 0 0), ⟨Nat.zero_le _, SV.nil⟩⟩ zz10 ?_ ?_
  ·
   exact fun w h => h.nilRow 32 16
  ·
   rintro ⟨⟨i, v⟩, ⟨hi0, hi1⟩⟩; try dsimp only
   have hi0 : i ≤ 35 := hi0; have hi1 : SV v i := hi1
   refine wpc_seq <| wpc_seq <| wpc_region <| wpl_q (q_pure rfl) rfl <| wpl_q (q_pure rfl) rfl <| wpl_nil <| ex_then ?_
   refine wpc_cond rfl (fun hc6 => ?_) (fun hc6 => ?_)
   ·
    try simp only [decide_eq_true_eq, decide_eq_false_iff_not, Bool.and_eq_true, Bool.or_eq_true, beq_iff_eq, bne_iff_ne, ne_eq, Bool.not_eq_true', Bool.not_eq_false', Decidable.not_not] at hc6
    refine wpc_skip <| ex_then <| wpc_seq <| wpc_block <| wpc_region <| wpl_q (q_pure rfl) rfl ?_
    refine wpl_q (q_ldN Tryz.underlying32 rfl Tryz.ti32 rfl zz0) rfl ?_
    refine wpl_q (q_pure rfl) rfl ?_
    refine wpl_t (t_pur Tryz.hb68 rfl fun w h => refChain _ _ 15 w zz11 zz16) rfl (fun b12 => ?_)
    refine wpl_tp (t_bsS [chainF xs i 15] Tryz.underlying26 Tryz.ti32 rfl zz22 rfl zz22 zz22 rfl (all_one (chainF_length _ _ _))) rfl (fun b13 p13 => ?_)
    refine wpl_tp (t_apW Tryz.underlying26 Tryz.ti32 rfl zz22 rfl rfl (fun w h => zz12) zz17 zz1 zz1 _ zz18) rfl (fun b14 p14 => ?_)
    refine wpl_q (q_pure rfl) rfl <| wpl_nil <| ex_block <| ex_then <| wpc_region <| wpl_q (q_pure rfl) rfl ?_
    refine wpl_q (q_addN (b := 1) rfl rfl zz1) rfl ?_
    refine wpl_q (q_pure rfl) rfl <| wpl_nil ?_
    refine ex_again ⟨(i + 1, b14), ⟨zz16, p14⟩⟩ ?_ ?_ ?_
    ·
     exact zz10
    ·
     exact fun w h => by
       dsimp only
       rw [kacc_succ, List.flatten_append]
       first | exact h.sub SubC.h SubC.h | exact h.sub zz6 zz6
    ·
     (show 35 - (i + 1) < 35 - i); omega
   ·
    simp only [decide_eq_false_iff_not] at hc6
    obtain rfl : i = 35 := by omega
    have hka := kacc_all (fun q => chainF xs q 15) 35 (fun q _ => chainF_length xs q 15)
    have hkl := kacc_length (fun q => chainF xs q 15) 35
    have hkf : (kacc (fun q => chainF xs q 15) 35).flatten = accF (fun q => chainF xs q 15) 35 := accF_flat _ _
    refine wpc_exit ?_
    refine ex_then_exit ?_
    refine ex_then_exit ?_
    refine ex_block_hit ?_
    refine ex_then <| wpc_seq <| wpc_region <| wpl_q (q_pure rfl) rfl ?_
    refine wpl_t (t_pur Tryz.hb93 rfl fun w h => refJoined _ _ w zz15 (by first | assumption | exact signF_all _ _ | exact sg_all _ _) zz1) rfl (fun b16 => ?_)
    refine wpl_t0 (t_stA Tryz.ti32 rfl rfl zz0 (v8s_one _) zz0) (fun _ => ?_)
    refine wpl_nil <| ex_then <| wpc_ret ?_
    refine retv1 (.inl rfl) rfl (rv_agg Tryz.underlying32 rfl Tryz.ti32 rfl (fun w h => h.atB) zz0) ?_
    exact fun w h => ⟨by rw [publicF, ← hkf], h.below⟩
theorem refSign (xs : List UInt8) (bv : Value) (bs : List UInt8) (w : World) (hxs : xs.length = 16) (hbv : Seen w.cell? bv bs.length 1 (v8s bs)) (hlb : bs.length ≤ 1000000000) :
    Calls Tryz.prog 38 [.agg (v8s xs).toArray, bv].toArray w (GivesP w (fun v => SV v 35) (fun v : Value => v) (fun v => [.row v 35 32 16 (v8s (signF xs bs).flatten)]) (fun _ => [])) := by
  have sbv := hbv.sv
  have lbv := sbv.le
  simp only [maxLen] at lbv
  refine enter (m := 25) (R := Mem w [] [] []) Tryz.func38 rfl rfl (Nat.le_of_ble_eq_true rfl) (Mem.start w) ?_
  refine wpc_seq <| wpc_region ?_
  refine wpl_t (t_box rfl (v8s xs) rfl) rfl (fun b2 => ?_)
  refine wpl_q (q_pure rfl) rfl <| wpl_nil <| ex_then <| wpc_seq <| wpc_region <| wpl_q (q_pure rfl) rfl ?_
  refine wpl_tp (t_callP1 Tryz.hb67 rfl fun w h => refDigits _ _ w zz15 zz1) rfl (fun b9 p9 => ?_)
  refine wpl_q (q_pure rfl) rfl <| wpl_nil <| ex_then <| wpc_seq <| wpc_region <| wpl_q (q_pure rfl) rfl <| wpl_nil <| ex_then <| wpc_seq <| wpc_seq <| wpc_region <| wpl_q (q_pure rfl) rfl ?_
  refine wpl_nil <| ex_then <| wpc_block ?_
  refine wpc_loopc (ι := { x : Nat × Value // (x.1 ≤ 35) ∧ (SV x.2 x.1) }) [(2, _), (5, _)] (fun x Lc => (7, .int .i64 ((x.1.1 : Nat) : Int)) :: (6, x.1.2) :: Lc) (fun x => Mem w [] [.row x.1.2 x.1.1 32 16 (v8s (sg xs bs x.1.1).flatten), .row b9 35 3 1 (vns (digsF (shortF bs))), .blk b2 32 (v8s xs)] []) (fun x => 35 - x.1.1) ⟨(0, .slice none 0 0), ⟨Nat.zero_le _, SV.nil⟩⟩ zz10 ?_ ?_
  ·
   exact fun w h => h.nilRow 32 16
  ·
   rintro ⟨⟨i, v⟩, ⟨hi0, hi1⟩⟩; try dsimp only
   have hi0 : i ≤ 35 := hi0; have hi1 : SV v i := hi1
   have hdl := digsF_length (shortF bs)
   have hdg : (digsF (shortF bs)).getD i 0 ≤ 15 := dig_le bs i
   refine wpc_seq <| wpc_seq <| wpc_region <| wpl_q (q_pure rfl) rfl <| wpl_q (q_pure rfl) rfl <| wpl_nil <| ex_then ?_
   refine wpc_cond rfl (fun hc11 => ?_) (fun hc11 => ?_)
   ·
    try simp only [decide_eq_true_eq, decide_eq_false_iff_not, Bool.and_eq_true, Bool.or_eq_true, beq_iff_eq, bne_iff_ne, ne_eq, Bool.not_eq_true', Bool.not_eq_false', Decidable.not_not] at hc11
    refine wpc_skip <| ex_then <| wpc_seq <| wpc_block ?_
    refine wpc_draw 9 zz8 (fun _ h => h.drew) ?_
    refine wpd_p 0 rfl zz8 trivial (q_pure rfl) rfl sk0 ?_
    refine wpd_qB 1 [7, 8, 9] rfl zz8 trivial (q_ldN Tryz.underlying32 rfl Tryz.ti32 rfl zz0) rfl (fun _ h => h) ?_
    refine wpd_p 2 rfl zz8 trivial (q_pure rfl) rfl sk0 ?_
    refine wpd_p 3 rfl zz8 trivial (q_pure rfl) rfl sk0 ?_
    refine wpd_p 4 rfl zz8 trivial (q_pure rfl) rfl sk0 ?_
    refine wpd_p 5 rfl zz8 trivial (q_idxW1 Tryz.underlying97 Tryz.ti3 rfl rfl zz5 zz1) rfl sk0 ?_
    refine wpd_qB 6 [7, 8, 9] rfl zz8 trivial (q_ldW Tryz.underlying3 rfl rfl (fun w h => zz12) zz27) rfl (fun _ h => h) ?_
    refine wpd_t 7 rfl zz8 trivial (t_pur Tryz.hb68 rfl fun w h => refChain _ _ _ w zz11 zz16) rfl (fun _ => sk0) (fun b21 => ?_)
    refine wpd_tp 8 rfl zz8 trivial (t_bsS [_] Tryz.underlying26 Tryz.ti32 rfl zz22 rfl zz22 zz22 rfl (all_one zz11)) rfl (fun _ => (fun w h => .inr (h.sub SubC.h SubC.h))) (fun b22 p22 => ?_)
    refine wpd_tp 9 rfl zz8 trivial (t_apW Tryz.underlying26 Tryz.ti32 rfl zz22 rfl rfl (fun w h => zz12) zz17 zz1 zz1 _ zz18) rfl (fun _ => skk rfl) (fun b23 p23 => ?_)
    refine wpd_p 10 rfl zz8 trivial (q_pure rfl) rfl (skk rfl) ?_
    refine wpd_done zz8 ?_
    refine ex_block <| ex_then <| wpc_region <| wpl_q (q_pure rfl) rfl ?_
    refine wpl_q (q_addN (b := 1) rfl rfl zz1) rfl ?_
    refine wpl_q (q_pure rfl) rfl <| wpl_nil ?_
    refine ex_again ⟨(i + 1, b23), ⟨zz16, p23⟩⟩ ?_ ?_ ?_
    ·
     exact zz10
    ·
     exact fun w h => by
       dsimp only
       rw [sg_succ, List.flatten_append]
       first | exact h.sub SubC.h SubC.h | exact h.sub zz6 zz6
    ·
     (show 35 - (i + 1) < 35 - i); omega
   ·
    simp only [decide_eq_false_iff_not] at hc11
    obtain rfl : i = 35 := by omega
    refine wpc_exit ?_
    refine ex_then_exit ?_
    refine ex_then_exit ?_
    refine ex_block_hit ?_
    refine ex_then <| wpc_seq <| wpc_region <| wpl_q (q_pure rfl) rfl <| wpl_q (q_pure rfl) rfl <| wpl_nil <| ex_then <| wpc_ret ?_
    refine ret1 (.inl rfl) rfl rfl ?_
    exact fun w h => ⟨v, hi1, rfl, h.below, h.made (.keep .nil) .nil⟩
theorem refRecover (bv : Value) (bs : List UInt8) (cv : Value) (chs : List (List UInt8)) (w : World) (hbv : Seen w.cell? bv bs.length 1 (v8s bs)) (hcv : Seen w.cell? cv chs.length 16 (v8s chs.flatten)) (hlchs : ∀ x ∈ chs, x.length = 16) (hlb : bs.length ≤ 1000000000) :
    Calls Tryz.prog 77 [bv, cv].toArray w (Pur w (.tuple #[.agg (v8s (recF bs chs)).toArray, .int .i64 (recEr chs)])) := by
  have sbv := hbv.sv
  have lbv := sbv.le
  simp only [maxLen] at lbv
  have scv := hcv.sv
  have lcv := scv.le
  simp only [maxLen] at lcv
  refine enter (m := 43) (R := Mem w [] [] []) Tryz.func77 rfl rfl (Nat.le_of_ble_eq_true rfl) (Mem.start w) ?_
  refine wpc_seq <| wpc_region ?_
  refine wpl_t (t_alloc Tryz.ti32 (v8s (List.replicate 16 0)) (by rfl)) rfl (fun b4 => ?_)
  refine wpl_q (q_pure rfl) rfl <| wpl_nil <| ex_then <| wpc_seq <| wpc_seq <| wpc_region <| wpl_q (q_pure rfl) rfl ?_
  refine wpl_q (q_lenW Tryz.underlying26 rfl zz5) rfl ?_
  refine wpl_q (q_pure rfl) rfl <| wpl_nil <| ex_then ?_
  refine wpc_cond rfl (fun hc13 => ?_) (fun hc13 => ?_)
  ·
   simp only [bne_iff_ne, ne_eq, decide_eq_true_eq] at hc13
   have hne : chs.length ≠ 35 := by omega
   have hr : recF bs chs = List.replicate 16 0 := if_neg hne
   have he : recEr chs = 12 := if_neg hne
   refine wpc_seq <| wpc_region ?_
   refine wpl_q (q_build (cs := (v8s (List.replicate 16 0))) rfl (built_array Tryz.underlying32 Tryz.ti32 Tryz.ti5 rfl)) rfl ?_
   refine wpl_t0 (t_stA Tryz.ti32 rfl rfl zz0 (v8s_one _) zz0) (fun _ => ?_)
   refine wpl_q (q_pure rfl) rfl <| wpl_nil <| ex_then <| wpc_ret ?_
   refine ex_then_ret ?_
   refine retv2 (.inl rfl) rfl (rv_agg Tryz.underlying32 rfl Tryz.ti32 rfl (fun w h => h.atB) zz0) (rv_tmp rfl) ?_
   exact fun w h => ⟨by rw [hr, he], h.below⟩
  ·
   simp only [bne_eq_false_iff_eq, decide_eq_false_iff_not, ne_eq, Decidable.not_not] at hc13
   have heq : chs.length = 35 := by omega
   have hr : recF bs chs = shortF (accF (recE bs chs) 35) := if_pos heq
   have he : recEr chs = 0 := if_pos heq
   have hdl := digsF_length (shortF bs)
   refine wpc_skip <| ex_then <| wpc_seq <| wpc_region <| wpl_q (q_pure rfl) rfl ?_
   refine wpl_tp (t_callP1 Tryz.hb67 rfl fun w h => refDigits _ _ w zz15 zz1) rfl (fun b16 p16 => ?_)
   refine wpl_q (q_pure rfl) rfl <| wpl_nil <| ex_then <| wpc_seq <| wpc_region <| wpl_q (q_pure rfl) rfl <| wpl_nil <| ex_then <| wpc_seq <| wpc_seq <| wpc_region <| wpl_q (q_pure rfl) rfl ?_
   refine wpl_nil <| ex_then <| wpc_block ?_
   refine wpc_loopc (ι := { x : Nat × Value // (x.1 ≤ 35) ∧ (SV x.2 x.1) }) [(1, _), (4, _), (6, _)] (fun x Lc => (8, .int .i64 ((x.1.1 : Nat) : Int)) :: (7, x.1.2) :: Lc) (fun x => Mem w [] [.row x.1.2 x.1.1 32 16 (v8s (kacc (recE bs chs) x.1.1).flatten), .row b16 35 3 1 (vns (digsF (shortF bs))), .blk b4 32 (v8s (List.replicate 16 0))] []) (fun x => 35 - x.1.1) ⟨(0, .slice none 0 0), ⟨Nat.zero_le _, SV.nil⟩⟩ zz10 ?_ ?_
   ·
    exact fun w h => h.nilRow 32 16
   ·
    rintro ⟨⟨i, v⟩, ⟨hi0, hi1⟩⟩; try dsimp only
    have hi0 : i ≤ 35 := hi0; have hi1 : SV v i := hi1
    have hdg : (digsF (shortF bs)).getD i 0 ≤ 15 := dig_le bs i
    refine wpc_seq <| wpc_seq <| wpc_region <| wpl_q (q_pure rfl) rfl <| wpl_q (q_pure rfl) rfl <| wpl_nil <| ex_then ?_
    refine wpc_cond rfl (fun hc18 => ?_) (fun hc18 => ?_)
    ·
     simp only [decide_eq_true_eq] at hc18
     have hgl := getD_mem_len hlchs (i := i) zz16
     refine wpc_skip <| ex_then <| wpc_seq <| wpc_block <| wpc_seq <| wpc_region <| wpl_q (q_pure rfl) rfl <| wpl_q (q_pure rfl) rfl ?_
     refine wpl_q (q_idxW Tryz.underlying26 Tryz.ti32 rfl rfl zz5 zz1) rfl ?_
     refine wpl_q (q_ldWN Tryz.underlying32 rfl Tryz.ti32 rfl (fun w h => zz12) (v8s (chs.getD i [])) (part8 hlchs zz16) ((v8s_length _).trans hgl)) rfl ?_
     refine wpl_t (t_alloc Tryz.ti32 (v8s (List.replicate 16 0)) (by rfl)) rfl (fun b9 => ?_)
     refine wpl_t0 (t_stA Tryz.ti32 rfl rfl zz0 (v8s_one _) zz0) (fun _ => ?_)
     refine wpl_nil <| ex_then <| wpc_seq <| wpc_seq <| wpc_region <| wpl_q (q_pure rfl) rfl <| wpl_q (q_pure rfl) rfl ?_
     refine wpl_q (q_idxW1 Tryz.underlying97 Tryz.ti3 rfl rfl zz5 zz1) rfl ?_
     refine wpl_q (q_ldW Tryz.underlying3 rfl rfl (fun w h => zz12) zz27) rfl ?_
     refine wpl_q (q_pure rfl) rfl <| wpl_nil <| ex_then <| wpc_block ?_
     refine wpc_loopc (ι := { x : Nat // (x ≤ 15 - dig bs i) }) [(1, _), (4, _), (6, _), (7, _), (8, _), (9, _)] (fun x Lc => (10, .int .i64 ((dig bs i + x.1 : Nat) : Int)) :: Lc) (fun x => Mem w [] [.blk b9 32 (v8s (climbF (chs.getD i []) i (dig bs i) x.1)), .row v i 32 16 (v8s (kacc (recE bs chs) i).flatten), .row b16 35 3 1 (vns (digsF (shortF bs))), .blk b4 32 (v8s (List.replicate 16 0))] []) (fun x => 15 - dig bs i - x.1) ⟨0, zz19⟩ zz10 ?_ ?_
     ·
      exact fun w h => h
     ·
      rintro ⟨n, hi0⟩; try dsimp only
      have hi0 : n ≤ 15 - dig bs i := hi0
      have hcl := climbF_length (chs.getD i []) hgl i (dig bs i) n
      have hdd := dig_le bs i
      refine wpc_seq <| wpc_seq <| wpc_region <| wpl_q (q_pure rfl) rfl <| wpl_q (q_pure rfl) rfl <| wpl_nil <| ex_then ?_
      refine wpc_cond rfl (fun hc30 => ?_) (fun hc30 => ?_)
      ·
       try simp only [decide_eq_true_eq, decide_eq_false_iff_not, Bool.and_eq_true, Bool.or_eq_true, beq_iff_eq, bne_iff_ne, ne_eq, Bool.not_eq_true', Bool.not_eq_false', Decidable.not_not] at hc30
       refine wpc_skip <| ex_then <| wpc_seq <| wpc_block <| wpc_region ?_
       refine wpl_q (q_ldN Tryz.underlying32 rfl Tryz.ti32 rfl zz0) rfl ?_
       refine wpl_q (q_pure rfl) rfl <| wpl_q (q_pure rfl) rfl ?_
       refine wpl_t (t_pur Tryz.hb91 rfl fun w h => refStep _ _ _ w zz11) rfl (fun b36 => ?_)
       refine wpl_t0 (t_stA Tryz.ti32 rfl rfl zz0 (v8s_one _) zz0) (fun _ => ?_)
       refine wpl_nil <| ex_block <| ex_then <| wpc_region <| wpl_q (q_pure rfl) rfl ?_
       refine wpl_q (q_addN (b := 1) rfl rfl zz1) rfl ?_
       refine wpl_q (q_pure rfl) rfl <| wpl_nil ?_
       refine ex_again ⟨n + 1, zz19⟩ ?_ ?_ ?_
       ·
        exact zz10
       ·
        exact fun w h => by first | exact h | exact h.sub SubC.h SubC.h | exact h.sub zz6 zz6
       ·
        (show 15 - dig bs i - (n + 1) < 15 - dig bs i - n); omega
      ·
       simp only [decide_eq_false_iff_not] at hc30
       obtain rfl : n = 15 - dig bs i := by omega
       have hrl := recE_length bs chs hlchs i zz16
       refine wpc_exit ?_
       refine ex_then_exit ?_
       refine ex_then_exit ?_
       refine ex_block_hit ?_
       refine ex_then <| wpc_region <| wpl_q (q_pure rfl) rfl ?_
       refine wpl_q (q_ldN Tryz.underlying32 rfl Tryz.ti32 rfl zz0) rfl ?_
       refine wpl_tp (t_bsS [recE bs chs i] Tryz.underlying26 Tryz.ti32 rfl zz22 rfl zz22 zz22 rfl (all_one hrl)) rfl (fun b39 p39 => ?_)
       refine wpl_tp (t_apW Tryz.underlying26 Tryz.ti32 rfl zz22 rfl rfl (fun w h => zz12) zz17 zz1 zz1 _ zz18) rfl (fun b40 p40 => ?_)
       refine wpl_q (q_pure rfl) rfl <| wpl_nil <| ex_block <| ex_then <| wpc_region <| wpl_q (q_pure rfl) rfl ?_
       refine wpl_q (q_addN (b := 1) rfl rfl zz1) rfl ?_
       refine wpl_q (q_pure rfl) rfl <| wpl_nil ?_
       refine ex_again ⟨(i + 1, b40), ⟨zz16, p40⟩⟩ ?_ ?_ ?_
       ·
        exact zz10
       ·
        exact fun w h => by
          dsimp only
          rw [kacc_succ, List.flatten_append]
          first | exact h.sub SubC.h SubC.h | exact h.sub zz6 zz6
       ·
        (show 35 - (i + 1) < 35 - i); omega
    ·
     simp only [decide_eq_false_iff_not] at hc18
     obtain rfl : i = 35 := by omega
     have hka := kacc_all (recE bs chs) 35 (fun i hi => recE_length bs chs hlchs i zz16)
     have hkl := kacc_length (recE bs chs) 35
     have hkf : (kacc (recE bs chs) 35).flatten = accF (recE bs chs) 35 := accF_flat _ _
     refine wpc_exit ?_
     refine ex_then_exit ?_
     refine ex_then_exit ?_
     refine ex_block_hit ?_
     refine ex_then <| wpc_seq <| wpc_region <| wpl_q (q_pure rfl) rfl ?_
     refine wpl_t (t_pur Tryz.hb93 rfl fun w h => refJoined _ _ w zz15 (by first | assumption | exact signF_all _ _ | exact sg_all _ _) zz1) rfl (fun b42 => ?_)
     refine wpl_t0 (t_stA Tryz.ti32 rfl rfl zz0 (v8s_one _) zz0) (fun _ => ?_)
     refine wpl_q (q_pure rfl) rfl <| wpl_nil <| ex_then <| wpc_ret ?_
     refine retv2 (.inl rfl) rfl (rv_agg Tryz.underlying32 rfl Tryz.ti32 rfl (fun w h => h.atB) zz0) (rv_tmp rfl) ?_
     exact fun w h => ⟨by rw [hr, he, ← hkf], h.below⟩
end Go.Proofs.YtgnablliekgbgaaGreatDoor
namespace Go.Proofs.YtgnablliekgbgaaGreatDoor
open Go Go.PL Go.RowKit
def joinedF (a b : List UInt8) : List UInt8 := shortF ([1] ++ a ++ b)
instance l16_short {s : List UInt8} : L16 (shortF s) := ⟨shortF_length s⟩
instance l16_rec {m : List UInt8} {c : List (List UInt8)} : L16 (recF m c) := ⟨recF_length m c⟩
instance l16_pub {s : List UInt8} : L16 (publicF s) := ⟨publicF_length s⟩
theorem joinedF_length (a b : List UInt8) : (joinedF a b).length = 16 := by rw [joinedF]; exact shortF_length _
instance l16_joined {a b : List UInt8} : L16 (joinedF a b) := ⟨joinedF_length a b⟩
def checkFMm (ht idx : Int) (nc np : Nat) : Int := if 0 ≤ ht ∧ ht ≤ 4 then (if 0 ≤ idx ∧ idx < ((2 ^ ht.toNat : Nat) : Int) ∧ nc = 35 ∧ (np : Int) = ht then 0 else 12) else 2
theorem check_2Mm {ht idx : Int} {nc np : Nat} (h : ¬ (0 ≤ ht ∧ ht ≤ 4)) : checkFMm ht idx nc np = 2 := if_neg h
theorem check_inMm {m : Nat} {idx : Int} {nc np : Nat} (h : (m : Int) ≤ 4) : checkFMm m idx nc np = if 0 ≤ idx ∧ idx < ((2 ^ m : Nat) : Int) ∧ nc = 35 ∧ np = m then 0 else 12 := by
  unfold checkFMm
  rw [if_pos ⟨Int.natCast_nonneg m, h⟩, Int.toNat_natCast]
  simp only [Int.ofNat_inj]
theorem check_12Mm {m : Nat} {idx : Int} {nc np : Nat} (h : (m : Int) ≤ 4) (hn : ¬ (0 ≤ idx ∧ idx < ((2 ^ m : Nat) : Int) ∧ nc = 35 ∧ np = m)) : checkFMm m idx nc np = 12 := (check_inMm h).trans (if_neg hn)
theorem check_0Mm {m : Nat} {idx : Int} {nc np : Nat} (h : (m : Int) ≤ 4) (hn : 0 ≤ idx ∧ idx < ((2 ^ m : Nat) : Int) ∧ nc = 35 ∧ np = m) : checkFMm m idx nc np = 0 := (check_inMm h).trans (if_pos hn)
theorem check_spec {ht idx : Int} {nc np : Nat} (h : checkFMm ht idx nc np = 0) : ∃ m k : Nat, ht = (m : Int) ∧ idx = (k : Int) ∧ m ≤ 4 ∧ k < 2 ^ m ∧ nc = 35 ∧ np = m := by
  unfold checkFMm at h
  split at h
  · rename_i h1
    split at h
    · rename_i h2
      exact ⟨ht.toNat, idx.toNat, zz16, zz16, zz16, zz16, h2.2.2.1, zz16⟩
    · cases h
  · cases h
def stepU (x : List UInt8) (j : Nat) (p : List UInt8) : List UInt8 := if j % 2 = 0 then joinedF x p else joinedF p x
theorem stepU_length (x : List UInt8) (j : Nat) (p : List UInt8) : (stepU x j p).length = 16 := by unfold stepU; split <;> exact joinedF_length _ _
def upF (x : List UInt8) (k : Nat) (ps : List (List UInt8)) : Nat → List UInt8
  | 0 => x
  | i + 1 => stepU (upF x k ps i) (k / 2 ^ i) (ps.getD i [])
theorem upF_length {x : List UInt8} (hx : x.length = 16) (k : Nat) (ps : List (List UInt8)) : ∀ i, (upF x k ps i).length = 16
  | 0 => hx
  | i + 1 => by rw [upF]; exact stepU_length _ _ _
theorem pow_le16Mm {m : Nat} (h : m ≤ 4) : 2 ^ m ≤ 16 := Nat.le_trans (Nat.pow_le_pow_right zz22 h) zz22
theorem goodMm (ht : Int) (w : World)   :
    Calls Tryz.prog 30 [.int .i64 ht].toArray w (Pur w (.bool (decide (0 ≤ ht ∧ ht ≤ 4)))) := by
  refine enter (m := 9) (R := Mem w [] [] []) Tryz.func30 rfl rfl (Nat.le_of_ble_eq_true rfl) (Mem.start w) ?_
  refine wpc_seq <| wpc_region <| wpl_q (q_pure rfl) rfl <| wpl_nil <| ex_then <| wpc_seq <| wpc_region <| wpl_q (q_pure rfl) rfl <| wpl_q (q_pure rfl) rfl <| wpl_q (q_pure rfl) rfl ?_
  refine wpl_bool2 5 4 rfl rfl (fun hb5 => ?_) (fun hb5 => ?_)
  ·
   try simp only [decide_eq_true_eq, decide_eq_false_iff_not, Bool.and_eq_true, Bool.or_eq_true, beq_iff_eq, bne_iff_ne, ne_eq, Bool.not_eq_true', Bool.not_eq_false', Decidable.not_not] at hb5
   refine wpl_on rfl rfl <| wpl_q (q_pure rfl) rfl <| wpl_on rfl rfl <| wpl_q (q_pure rfl) rfl <| wpl_q (q_pure rfl) rfl <| wpl_q (q_pure rfl) rfl <| wpl_nil <| ex_then <| wpc_ret ?_
   refine ret1 (.inl rfl) rfl rfl ?_
   exact fun w h => ⟨by simp; omega, h.below⟩
  ·
   try simp only [decide_eq_true_eq, decide_eq_false_iff_not, Bool.and_eq_true, Bool.or_eq_true, beq_iff_eq, bne_iff_ne, ne_eq, Bool.not_eq_true', Bool.not_eq_false', Decidable.not_not] at hb5
   refine wpl_off rfl rfl rfl rfl <| wpl_off rfl rfl rfl rfl <| wpl_q (q_pure rfl) rfl <| wpl_q (q_pure rfl) rfl <| wpl_nil <| ex_then <| wpc_ret ?_
   refine ret1 (.inl rfl) rfl rfl ?_
   exact fun w h => ⟨by simp; omega, h.below⟩
theorem joined7 (xs : List UInt8) (ys : List UInt8) (w : World) (hxs : xs.length = 16) (hys : ys.length = 16) (hG : Glb w) :
    Calls Tryz.prog 63 [.agg (v8s xs).toArray, .agg (v8s ys).toArray].toArray w (Pur w (.agg (v8s (joinedF xs ys)).toArray)) := by
  refine enter (m := 11) (R := Mem w [] [] []) Tryz.func63 rfl rfl (Nat.le_of_ble_eq_true rfl) (Mem.start w) ?_
  refine wpc_seq <| wpc_region ?_
  refine wpl_t (t_box rfl (v8s xs) rfl) rfl (fun b2 => ?_)
  refine wpl_t (t_box rfl (v8s ys) rfl) rfl (fun b3 => ?_)
  refine wpl_t (t_alloc Tryz.ti32 (v8s (List.replicate 16 0)) (by rfl)) rfl (fun b4 => ?_)
  refine wpl_nil <| ex_then <| wpc_seq ?_
  refine wpc_draw 2 zz8 (fun _ h => h.drew) ?_
  refine wpd_p 1 rfl zz8 trivial (q_arAll Tryz.underlying32 Tryz.ti5 rfl rfl) rfl sk0 ?_
  refine wpd_p 3 rfl zz8 trivial (q_arAll Tryz.underlying32 Tryz.ti5 rfl rfl) rfl sk0 ?_
  refine wpd_tp 0 rfl zz8 trivial (t_bsV (v8s [(1 : UInt8)]) Tryz.underlying49 Tryz.ti5 rfl rfl zz22 zz22 rfl (v8s_one _)) rfl (fun _ => (fun w h => .inr (h.sub SubC.h SubC.h))) (fun b5 p5 => ?_)
  refine wpd_tp 2 rfl zz8 trivial (t_apW Tryz.underlying49 Tryz.ti5 rfl zz22 rfl rfl (fun w h => zz14) (v8s_one _) zz1 zz1 _ zz18) rfl (fun _ => skk rfl) (fun b7 p7 => ?_)
  refine wpd_tp 4 rfl zz8 trivial (t_apW Tryz.underlying49 Tryz.ti5 rfl zz22 rfl rfl (fun w h => zz14) (v8s_one _) zz1 zz1 _ zz18) rfl (fun _ => skk rfl) (fun b9 p9 => ?_)
  refine wpd_t 5 rfl zz8 trivial (t_pur Tryz.hb61 rfl fun w h => shortW _ _ w zz9 (glob h hG)) rfl (fun _ => skk rfl) (fun b10 => ?_)
  refine wpd_t0 6 rfl zz8 trivial (t_stA Tryz.ti32 rfl rfl zz2 (v8s_one _) zz2) (fun _ => skk rfl) (fun _ => ?_)
  refine wpd_done zz8 ?_
  refine ex_then <| wpc_ret ?_
  refine retv1 (.inl rfl) rfl (rv_agg Tryz.underlying32 rfl Tryz.ti32 rfl (fun w h => h.atB) zz2) ?_
  exact fun w h => ⟨rfl, h.below⟩
theorem check7Mm (ht : Int) (cv pv : Value) (chs ps : List (List UInt8)) (idx : Int) (w : World) (hcv : Seen w.cell? cv chs.length 16 (v8s chs.flatten)) (hlchs : ∀ x ∈ chs, x.length = 16) (hpv : Seen w.cell? pv ps.length 16 (v8s ps.flatten)) (hlps : ∀ x ∈ ps, x.length = 16)  :
    Calls Tryz.prog 50 [.int .i64 ht, .agg #[.int .i64 idx, cv, pv]].toArray w (Pur w (.int .i64 (checkFMm ht idx chs.length ps.length))) := by
  have scv := hcv.sv
  have lcv := scv.le
  simp only [maxLen] at lcv
  have spv := hpv.sv
  have lpv := spv.le
  simp only [maxLen] at lpv
  refine enter (m := 31) (R := Mem w [] [] []) Tryz.func50 rfl rfl (Nat.le_of_ble_eq_true rfl) (Mem.start w) ?_
  refine wpc_seq <| wpc_region ?_
  refine wpl_t (t_box rfl [.int .i64 idx, cv, pv] rfl) rfl (fun b3 => ?_)
  refine wpl_q (q_pure rfl) rfl <| wpl_nil <| ex_then <| wpc_seq <| wpc_seq <| wpc_region <| wpl_q (q_pure rfl) rfl ?_
  refine wpl_t (t_pur Tryz.hb30 rfl fun w h => goodMm _ w) rfl (fun b6 => ?_)
  refine wpl_q (q_pure rfl) rfl <| wpl_nil <| ex_then ?_
  refine wpc_cond rfl (fun hc7 => ?_) (fun hc7 => ?_)
  ·
   try simp only [decide_eq_true_eq, decide_eq_false_iff_not, Bool.and_eq_true, Bool.or_eq_true, beq_iff_eq, bne_iff_ne, ne_eq, Bool.not_eq_true', Bool.not_eq_false', Decidable.not_not] at hc7
   refine wpc_seq <| wpc_region <| wpl_q (q_pure rfl) rfl <| wpl_nil <| ex_then <| wpc_ret ?_
   refine ex_then_ret ?_
   refine ret1 (.inl rfl) rfl rfl ?_
   exact fun w h => ⟨by rw [check_2Mm hc7], h.below⟩
  ·
   simp only [Bool.not_eq_false', decide_eq_true_eq] at hc7
   obtain ⟨m, rfl⟩ : ∃ m : Nat, ht = (m : Int) := ⟨ht.toNat, zz16⟩
   have hpw := pow_le16Mm (m := m) zz16
   refine wpc_skip <| ex_then <| wpc_seq <| wpc_seq ?_
   refine wpc_draw 23 zz8 (fun _ h => h.drew) ?_
   refine wpd_p 0 rfl zz8 trivial (q_field Tryz.underlying28 rfl Tryz.ti3 rfl rfl _ rfl) rfl sk0 ?_
   refine wpd_q 1 rfl zz8 trivial (q_ld Tryz.underlying3 rfl rfl zz27) rfl (fun _ h => h) ?_
   refine wpd_p 2 rfl zz8 trivial (q_pure rfl) rfl sk0 ?_
   refine wpd_p 3 rfl zz8 trivial (q_pure rfl) rfl sk0 ?_
   refine wpd_bool2 11 10 rfl rfl (fun hb11 => ?_) (fun hb11 => ?_)
   ·
    try simp only [decide_eq_true_eq, decide_eq_false_iff_not, Bool.and_eq_true, Bool.or_eq_true, beq_iff_eq, bne_iff_ne, ne_eq, Bool.not_eq_true', Bool.not_eq_false', Decidable.not_not] at hb11
    refine wpd_off 4 rfl zz8 ⟨_, _, rfl, rfl, rfl⟩ rfl sk0 ?_
    refine wpd_off 5 rfl zz8 ⟨_, _, rfl, rfl, rfl⟩ rfl sk0 ?_
    refine wpd_off 6 rfl zz8 ⟨_, _, rfl, rfl, rfl⟩ rfl sk0 ?_
    refine wpd_off 7 rfl zz8 ⟨_, _, rfl, rfl, rfl⟩ rfl sk0 ?_
    refine wpd_off 8 rfl zz8 ⟨_, _, rfl, rfl, rfl⟩ rfl sk0 ?_
    refine wpd_p 9 rfl zz8 trivial (q_pure rfl) rfl sk0 ?_
    refine wpd_p 10 rfl zz8 trivial (q_pure rfl) rfl sk0 ?_
    refine wpd_off 11 rfl zz8 ⟨_, _, rfl, rfl, rfl⟩ rfl sk0 ?_
    refine wpd_off 12 rfl zz8 ⟨_, _, rfl, rfl, rfl⟩ rfl sk0 ?_
    refine wpd_off 13 rfl zz8 ⟨_, _, rfl, rfl, rfl⟩ rfl sk0 ?_
    refine wpd_off 14 rfl zz8 ⟨_, _, rfl, rfl, rfl⟩ rfl sk0 ?_
    refine wpd_p 15 rfl zz8 trivial (q_pure rfl) rfl sk0 ?_
    refine wpd_p 16 rfl zz8 trivial (q_pure rfl) rfl sk0 ?_
    refine wpd_off 17 rfl zz8 ⟨_, _, rfl, rfl, rfl⟩ rfl sk0 ?_
    refine wpd_off 18 rfl zz8 ⟨_, _, rfl, rfl, rfl⟩ rfl sk0 ?_
    refine wpd_off 19 rfl zz8 ⟨_, _, rfl, rfl, rfl⟩ rfl sk0 ?_
    refine wpd_off 20 rfl zz8 ⟨_, _, rfl, rfl, rfl⟩ rfl sk0 ?_
    refine wpd_off 21 rfl zz8 ⟨_, _, rfl, rfl, rfl⟩ rfl sk0 ?_
    refine wpd_p 22 rfl zz8 trivial (q_pure rfl) rfl sk0 ?_
    refine wpd_done zz8 ?_
    refine ex_then ?_
    refine wpc_cond_t rfl ?_
    refine wpc_seq <| wpc_region <| wpl_q (q_pure rfl) rfl <| wpl_nil <| ex_then <| wpc_ret ?_
    refine ex_then_ret ?_
    refine ret1 (.inl rfl) rfl rfl ?_
    exact fun w h => ⟨by rw [check_12Mm zz16 zz28], h.below⟩
   ·
    try simp only [decide_eq_true_eq, decide_eq_false_iff_not, Bool.and_eq_true, Bool.or_eq_true, beq_iff_eq, bne_iff_ne, ne_eq, Bool.not_eq_true', Bool.not_eq_false', Decidable.not_not] at hb11
    refine wpd_p 4 rfl zz8 ⟨_, rfl, rfl⟩ (q_field Tryz.underlying28 rfl Tryz.ti3 rfl rfl _ rfl) rfl sk0 ?_
    refine wpd_q 5 rfl zz8 ⟨_, rfl, rfl⟩ (q_ld Tryz.underlying3 rfl rfl zz27) rfl (fun _ h => h) ?_
    refine wpd_p 6 rfl zz8 ⟨_, rfl, rfl⟩ (q_pure rfl) rfl sk0 ?_
    refine wpd_p 7 rfl zz8 ⟨_, rfl, rfl⟩ (q_shlN (a := 1) rfl rfl zz26 zz1) rfl sk0 ?_
    refine wpd_p 8 rfl zz8 ⟨_, rfl, rfl⟩ (q_pure rfl) rfl sk0 ?_
    refine wpd_p 9 rfl zz8 trivial (q_pure rfl) rfl sk0 ?_
    refine wpd_p 10 rfl zz8 trivial (q_pure rfl) rfl sk0 ?_
    refine wpd_bool2 18 16 rfl rfl (fun hb18 => ?_) (fun hb18 => ?_)
    ·
     try simp only [decide_eq_true_eq, decide_eq_false_iff_not, Bool.and_eq_true, Bool.or_eq_true, beq_iff_eq, bne_iff_ne, ne_eq, Bool.not_eq_true', Bool.not_eq_false', Decidable.not_not] at hb18
     refine wpd_off 11 rfl zz8 ⟨_, _, rfl, rfl, rfl⟩ rfl sk0 ?_
     refine wpd_off 12 rfl zz8 ⟨_, _, rfl, rfl, rfl⟩ rfl sk0 ?_
     refine wpd_off 13 rfl zz8 ⟨_, _, rfl, rfl, rfl⟩ rfl sk0 ?_
     refine wpd_off 14 rfl zz8 ⟨_, _, rfl, rfl, rfl⟩ rfl sk0 ?_
     refine wpd_p 15 rfl zz8 trivial (q_pure rfl) rfl sk0 ?_
     refine wpd_p 16 rfl zz8 trivial (q_pure rfl) rfl sk0 ?_
     refine wpd_off 17 rfl zz8 ⟨_, _, rfl, rfl, rfl⟩ rfl sk0 ?_
     refine wpd_off 18 rfl zz8 ⟨_, _, rfl, rfl, rfl⟩ rfl sk0 ?_
     refine wpd_off 19 rfl zz8 ⟨_, _, rfl, rfl, rfl⟩ rfl sk0 ?_
     refine wpd_off 20 rfl zz8 ⟨_, _, rfl, rfl, rfl⟩ rfl sk0 ?_
     refine wpd_off 21 rfl zz8 ⟨_, _, rfl, rfl, rfl⟩ rfl sk0 ?_
     refine wpd_p 22 rfl zz8 trivial (q_pure rfl) rfl sk0 ?_
     refine wpd_done zz8 ?_
     refine ex_then ?_
     refine wpc_cond_t rfl ?_
     refine wpc_seq <| wpc_region <| wpl_q (q_pure rfl) rfl <| wpl_nil <| ex_then <| wpc_ret ?_
     refine ex_then_ret ?_
     refine ret1 (.inl rfl) rfl rfl ?_
     exact fun w h => ⟨by rw [check_12Mm zz16 zz28], h.below⟩
    ·
     try simp only [decide_eq_true_eq, decide_eq_false_iff_not, Bool.and_eq_true, Bool.or_eq_true, beq_iff_eq, bne_iff_ne, ne_eq, Bool.not_eq_true', Bool.not_eq_false', Decidable.not_not] at hb18
     refine wpd_p 11 rfl zz8 ⟨_, rfl, rfl⟩ (q_field Tryz.underlying28 rfl Tryz.ti26 rfl rfl _ rfl) rfl sk0 ?_
     refine wpd_q 12 rfl zz8 ⟨_, rfl, rfl⟩ (q_ld Tryz.underlying26 rfl rfl rfl) rfl (fun _ h => h) ?_
     refine wpd_p 13 rfl zz8 ⟨_, rfl, rfl⟩ (q_lenW Tryz.underlying26 rfl zz5) rfl sk0 ?_
     refine wpd_p 14 rfl zz8 ⟨_, rfl, rfl⟩ (q_pure rfl) rfl sk0 ?_
     refine wpd_p 15 rfl zz8 trivial (q_pure rfl) rfl sk0 ?_
     refine wpd_p 16 rfl zz8 trivial (q_pure rfl) rfl sk0 ?_
     refine wpd_bool2 24 22 rfl rfl (fun hb24 => ?_) (fun hb24 => ?_)
     ·
      try simp only [decide_eq_true_eq, decide_eq_false_iff_not, Bool.and_eq_true, Bool.or_eq_true, beq_iff_eq, bne_iff_ne, ne_eq, Bool.not_eq_true', Bool.not_eq_false', Decidable.not_not] at hb24
      refine wpd_off 17 rfl zz8 ⟨_, _, rfl, rfl, rfl⟩ rfl sk0 ?_
      refine wpd_off 18 rfl zz8 ⟨_, _, rfl, rfl, rfl⟩ rfl sk0 ?_
      refine wpd_off 19 rfl zz8 ⟨_, _, rfl, rfl, rfl⟩ rfl sk0 ?_
      refine wpd_off 20 rfl zz8 ⟨_, _, rfl, rfl, rfl⟩ rfl sk0 ?_
      refine wpd_off 21 rfl zz8 ⟨_, _, rfl, rfl, rfl⟩ rfl sk0 ?_
      refine wpd_p 22 rfl zz8 trivial (q_pure rfl) rfl sk0 ?_
      refine wpd_done zz8 ?_
      refine ex_then ?_
      refine wpc_cond_t rfl ?_
      refine wpc_seq <| wpc_region <| wpl_q (q_pure rfl) rfl <| wpl_nil <| ex_then <| wpc_ret ?_
      refine ex_then_ret ?_
      refine ret1 (.inl rfl) rfl rfl ?_
      exact fun w h => ⟨by rw [check_12Mm zz16 zz28], h.below⟩
     ·
      try simp only [decide_eq_true_eq, decide_eq_false_iff_not, Bool.and_eq_true, Bool.or_eq_true, beq_iff_eq, bne_iff_ne, ne_eq, Bool.not_eq_true', Bool.not_eq_false', Decidable.not_not] at hb24
      refine wpd_p 17 rfl zz8 ⟨_, rfl, rfl⟩ (q_field Tryz.underlying28 rfl Tryz.ti26 rfl rfl _ rfl) rfl sk0 ?_
      refine wpd_q 18 rfl zz8 ⟨_, rfl, rfl⟩ (q_ld Tryz.underlying26 rfl rfl rfl) rfl (fun _ h => h) ?_
      refine wpd_p 19 rfl zz8 ⟨_, rfl, rfl⟩ (q_lenW Tryz.underlying26 rfl zz5) rfl sk0 ?_
      refine wpd_p 20 rfl zz8 ⟨_, rfl, rfl⟩ (q_pure rfl) rfl sk0 ?_
      refine wpd_p 21 rfl zz8 ⟨_, rfl, rfl⟩ (q_pure rfl) rfl sk0 ?_
      refine wpd_p 22 rfl zz8 trivial (q_pure rfl) rfl sk0 ?_
      refine wpd_done zz8 ?_
      refine ex_then ?_
      refine wpc_cond rfl (fun hc30 => ?_) (fun hc30 => ?_)
      ·
       try simp only [decide_eq_true_eq, decide_eq_false_iff_not, Bool.and_eq_true, Bool.or_eq_true, beq_iff_eq, bne_iff_ne, ne_eq, Bool.not_eq_true', Bool.not_eq_false', Decidable.not_not] at hc30
       refine wpc_seq <| wpc_region <| wpl_q (q_pure rfl) rfl <| wpl_nil <| ex_then <| wpc_ret ?_
       refine ex_then_ret ?_
       refine ret1 (.inl rfl) rfl rfl ?_
       exact fun w h => ⟨by rw [check_12Mm zz16 zz28], h.below⟩
      ·
       simp only [bne_eq_false_iff_eq, decide_eq_false_iff_not, ne_eq, Decidable.not_not] at hc30 hb24
       refine wpc_skip <| ex_then <| wpc_seq <| wpc_region <| wpl_q (q_pure rfl) rfl <| wpl_nil <| ex_then <| wpc_ret ?_
       refine ret1 (.inl rfl) rfl rfl ?_
       exact fun w h => ⟨by rw [check_0Mm zz16 zz16], h.below⟩
end Go.Proofs.YtgnablliekgbgaaGreatDoor
namespace Go.Proofs.YtgnablliekgbgaaGreatDoor
open Go Go.PL Go.RowKit
def rootF (ht idx : Int) (bs : List UInt8) (chs ps : List (List UInt8)) : List UInt8 := if checkFMm ht idx chs.length ps.length = 0 then upF (recF bs chs) idx.toNat ps ps.length else List.replicate 16 0
theorem rootF_length (ht idx : Int) (bs : List UInt8) (chs ps : List (List UInt8)) : (rootF ht idx bs chs ps).length = 16 := by
  unfold rootF; split
  · exact upF_length (recF_length _ _) _ _ _
  · exact List.length_replicate
theorem globL {w0 w : World} {Ln : List Nat} {M : List Ent} {S : List Fact} (h : Mem w0 Ln M S w) (hl : 0 ∉ Ln) (hG : Glb w0) : Glb w := ⟨h.at_oldL hG.1 hl, Nat.lt_of_lt_of_le hG.2 h.size⟩
theorem own_ne {w0 w : World} {M : List Ent} {S : List Fact} {b : Nat} {t : TypeId} {cs : List Value} (h : Mem w0 [] M S w) (hG : Glb w0) (hm : Ent.blk b t cs ∈ M) : b ≠ 0 := by
  have h1 := h.new _ hm b rfl
  have h2 := hG.2
  simp only [List.not_mem_nil, or_false] at h1
  omega
theorem key_height (rs : List UInt8) (ht : Int) (h : rs.length = 16) : (v8s rs ++ [Value.int .i64 ht])[16]? = some (.int .i64 ht) := by
  rw [List.getElem?_append_right (by rw [v8s_length]; omega), v8s_length, h]; rfl
theorem key_root (rs : List UInt8) (ht : Int) (h : rs.length = 16) : ((v8s rs ++ [Value.int .i64 ht]).drop 0).take 16 = v8s rs := by
  rw [List.drop_zero, List.take_left' (by rw [v8s_length]; exact h)]
theorem div_step (k i : Nat) : k / 2 ^ (i + 1) = k / 2 ^ i / 2 ^ 1 := by rw [Nat.pow_succ, Nat.div_div_eq_div_mul]
theorem followed7 (ys : List UInt8) (bi bn : Nat) (xs : List UInt8) (j : Nat) (w : World) (hys : ys.length = 16) (hi : w.heap[bi]? = some (.cells ([.int .i64 ((j : Nat) : Int)] : List Value).toArray 3 (0, 0))) (hn : w.heap[bn]? = some (.cells (v8s xs).toArray 32 (0, 0))) (hne : bi ≠ bn) (hxs : xs.length = 16) (hj : j ≤ 1000) (hi0 : bi ≠ 0) (hn0 : bn ≠ 0) (hG : Glb w) :
    Calls Tryz.prog 95 [.agg (v8s ys).toArray, .pointer (some ⟨bi, 0, none⟩), .pointer (some ⟨bn, 0, none⟩)].toArray w (GivesL w [bi, bn] (fun _ : Unit => .agg (v8s (stepU xs j ys)).toArray) fun _ => [.blk bi 3 [.int .i64 ((j / 2 ^ 1 : Nat) : Int)], .blk bn 32 (v8s (stepU xs j ys))]) := by
  have h0 : (0 : Nat) ∉ [bi, bn] := by simp; omega
  have hjl1 := joinedF_length xs ys
  have hjl2 := joinedF_length ys xs
  have hjl3 := stepU_length xs j ys
  refine enter (m := 17) (R := Mem w [bi, bn] [.blk bi 3 [.int .i64 ((j : Nat) : Int)], .blk bn 32 (v8s xs)] []) Tryz.func95 rfl rfl (Nat.le_of_ble_eq_true rfl) (Mem.start2 w hi hn hne) ?_
  refine wpc_seq <| wpc_region ?_
  refine wpl_t (t_box rfl (v8s ys) rfl) rfl (fun b3 => ?_)
  refine wpl_t (t_alloc Tryz.ti32 (v8s (List.replicate 16 0)) (by rfl)) rfl (fun b4 => ?_)
  refine wpl_nil <| ex_then <| wpc_seq <| wpc_seq <| wpc_region ?_
  refine wpl_q (q_ld Tryz.underlying3 rfl rfl zz27) rfl ?_
  refine wpl_q (q_andN (b := 1) rfl rfl zz1 zz1) rfl ?_
  refine wpl_q (q_pure rfl) rfl <| wpl_nil <| ex_then ?_
  refine wpc_cond rfl (fun hc7 => ?_) (fun hc7 => ?_)
  ·
   try simp only [decide_eq_true_eq, beq_iff_eq] at hc7
   have hst : stepU xs j ys = joinedF xs ys := if_pos (by have := Nat.and_one_is_mod j; omega)
   refine wpc_region ?_
   refine wpl_q (q_ldN Tryz.underlying32 rfl Tryz.ti32 rfl zz2) rfl ?_
   refine wpl_q (q_ldN Tryz.underlying32 rfl Tryz.ti32 rfl zz2) rfl ?_
   refine wpl_t (t_pur Tryz.hb63 rfl fun w h => joined7 _ _ w zz21 zz21 (globL h h0 hG)) rfl (fun b10 => ?_)
   refine wpl_t0 (t_stA Tryz.ti32 rfl rfl zz2 (v8s_one _) zz2) (fun _ => ?_)
   refine wpl_nil <| ex_then <| wpc_seq <| wpc_region ?_
   refine wpl_q (q_ld Tryz.underlying3 rfl rfl zz27) rfl ?_
   refine wpl_q (q_shrN (b := 1) rfl rfl zz26) rfl ?_
   refine wpl_t0 (t_st1 Tryz.ti3 rfl rfl rfl zz4 _ (by first | exact vns_set _ | rfl)) (fun _ => ?_)
   refine wpl_nil <| ex_then <| wpc_seq <| wpc_region ?_
   refine wpl_q (q_ldN Tryz.underlying32 rfl Tryz.ti32 rfl zz2) rfl ?_
   refine wpl_t0 (t_stA Tryz.ti32 rfl rfl zz2 (v8s_one _) zz2) (fun _ => ?_)
   refine wpl_nil <| ex_then <| wpc_ret ?_
   refine retv1 (.inl rfl) rfl (rv_agg Tryz.underlying32 rfl Tryz.ti32 rfl (fun w h => h.atB) zz2) ?_
   exact fun w h => by
     rw [hst]
     exact ⟨(), rfl, h.sub (.drop (.drop (Sub.refl _))) (Sub.refl _)⟩
  ·
   try simp only [decide_eq_false_iff_not, beq_eq_false_iff_ne, ne_eq] at hc7
   have hst : stepU xs j ys = joinedF ys xs := if_neg (by have := Nat.and_one_is_mod j; omega)
   refine wpc_region ?_
   refine wpl_q (q_ldN Tryz.underlying32 rfl Tryz.ti32 rfl zz2) rfl ?_
   refine wpl_q (q_ldN Tryz.underlying32 rfl Tryz.ti32 rfl zz2) rfl ?_
   refine wpl_t (t_pur Tryz.hb63 rfl fun w h => joined7 _ _ w zz21 zz21 (globL h h0 hG)) rfl (fun b13 => ?_)
   refine wpl_t0 (t_stA Tryz.ti32 rfl rfl zz2 (v8s_one _) zz2) (fun _ => ?_)
   refine wpl_nil <| ex_then <| wpc_seq <| wpc_region ?_
   refine wpl_q (q_ld Tryz.underlying3 rfl rfl zz27) rfl ?_
   refine wpl_q (q_shrN (b := 1) rfl rfl zz26) rfl ?_
   refine wpl_t0 (t_st1 Tryz.ti3 rfl rfl rfl zz4 _ (by first | exact vns_set _ | rfl)) (fun _ => ?_)
   refine wpl_nil <| ex_then <| wpc_seq <| wpc_region ?_
   refine wpl_q (q_ldN Tryz.underlying32 rfl Tryz.ti32 rfl zz2) rfl ?_
   refine wpl_t0 (t_stA Tryz.ti32 rfl rfl zz2 (v8s_one _) zz2) (fun _ => ?_)
   refine wpl_nil <| ex_then <| wpc_ret ?_
   refine retv1 (.inl rfl) rfl (rv_agg Tryz.underlying32 rfl Tryz.ti32 rfl (fun w h => h.atB) zz2) ?_
   exact fun w h => by
     rw [hst]
     exact ⟨(), rfl, h.sub (.drop (.drop (Sub.refl _))) (Sub.refl _)⟩
theorem follower7 (xs : List UInt8) (k : Nat) (w : World) (hxs : xs.length = 16)  :
    Calls Tryz.prog 76 [.agg (v8s xs).toArray, .int .i64 ((k : Nat) : Int)].toArray w (GivesP w (fun _ : Nat × Nat => True) (fun b : Nat × Nat => .func (.func 95) #[] #[.pointer (some ⟨b.1, 0, none⟩), .pointer (some ⟨b.2, 0, none⟩)]) (fun b => [.blk b.1 3 [.int .i64 ((k : Nat) : Int)], .blk b.2 32 (v8s xs)]) (fun _ => [])) := by
  refine enter (m := 6) (R := Mem w [] [] []) Tryz.func76 rfl rfl (Nat.le_of_ble_eq_true rfl) (Mem.start w) ?_
  refine wpc_seq <| wpc_region ?_
  refine wpl_t (t_box rfl (v8s xs) rfl) rfl (fun b2 => ?_)
  refine wpl_t (t_box rfl [.int .i64 ((k : Nat) : Int)] rfl) rfl (fun b3 => ?_)
  refine wpl_q (q_pure rfl) rfl <| wpl_nil <| ex_then <| wpc_seq <| wpc_region ?_
  refine wpl_q (q_fn (us := []) (vs := [_, _]) rfl rfl) rfl ?_
  refine wpl_q (q_pure rfl) rfl <| wpl_nil <| ex_then <| wpc_ret ?_
  refine ret1 (.inl rfl) rfl rfl ?_
  exact fun w h => ⟨(b3, b2), trivial, rfl, h.below, h.made (.keep (.keep .nil)) .nil⟩
theorem root7 (ht : Int) (bv : Value) (bs : List UInt8) (cv pv : Value) (chs ps : List (List UInt8)) (idx : Int) (w : World) (hbv : Seen w.cell? bv bs.length 1 (v8s bs)) (hcv : Seen w.cell? cv chs.length 16 (v8s chs.flatten)) (hlchs : ∀ x ∈ chs, x.length = 16) (hpv : Seen w.cell? pv ps.length 16 (v8s ps.flatten)) (hlps : ∀ x ∈ ps, x.length = 16) (hG : Glb w) :
    Calls Tryz.prog 46 [.int .i64 ht, bv, .agg #[.int .i64 idx, cv, pv]].toArray w (Pur w (.tuple #[.agg (v8s (rootF ht idx bs chs ps)).toArray, .int .i64 (checkFMm ht idx chs.length ps.length)])) := by
  have sbv := hbv.sv
  have lbv := sbv.le
  simp only [maxLen] at lbv
  have scv := hcv.sv
  have lcv := scv.le
  simp only [maxLen] at lcv
  have spv := hpv.sv
  have lpv := spv.le
  simp only [maxLen] at lpv
  refine enter (m := 45) (R := Mem w [] [] []) Tryz.func46 rfl rfl (Nat.le_of_ble_eq_true rfl) (Mem.start w) ?_
  refine wpc_seq <| wpc_region ?_
  refine wpl_t (t_box rfl [.int .i64 idx, cv, pv] rfl) rfl (fun b5 => ?_)
  refine wpl_t (t_alloc Tryz.ti32 (v8s (List.replicate 16 0)) (by rfl)) rfl (fun b6 => ?_)
  refine wpl_q (q_pure rfl) rfl <| wpl_nil <| ex_then <| wpc_seq <| wpc_seq <| wpc_region <| wpl_q (q_pure rfl) rfl ?_
  refine wpl_q (q_ldN Tryz.underlying28 rfl Tryz.ti28 rfl zz2) rfl ?_
  refine wpl_t (t_pur Tryz.hb50 rfl fun w h => check7Mm _ _ _ _ _ _ w zz9 zz20 zz9 zz20) rfl (fun b16 => ?_)
  refine wpl_q (q_pure rfl) rfl <| wpl_nil <| ex_then <| wpc_seq <| wpc_region <| wpl_q (q_pure rfl) rfl <| wpl_q (q_pure rfl) rfl <| wpl_nil <| ex_then ?_
  refine wpc_cond rfl (fun hc18 => ?_) (fun hc18 => ?_)
  ·
   simp only [bne_iff_ne, ne_eq, decide_eq_true_eq] at hc18
   have hr : rootF ht idx bs chs ps = List.replicate 16 0 := if_neg hc18
   refine wpc_seq <| wpc_region ?_
   refine wpl_q (q_build (cs := (v8s (List.replicate 16 0))) rfl (built_array Tryz.underlying32 Tryz.ti32 Tryz.ti5 rfl)) rfl ?_
   refine wpl_q (q_pure rfl) rfl ?_
   refine wpl_t0 (t_stA Tryz.ti32 rfl rfl zz2 (v8s_one _) zz2) (fun _ => ?_)
   refine wpl_q (q_pure rfl) rfl <| wpl_nil <| ex_then <| wpc_ret ?_
   refine ex_then_ret ?_
   refine retv2 (.inl rfl) rfl (rv_agg Tryz.underlying32 rfl Tryz.ti32 rfl (fun w h => h.atB) zz2) (rv_tmp rfl) ?_
   exact fun w h => ⟨by rw [hr], h.below⟩
  ·
   simp only [bne_eq_false_iff_eq, decide_eq_false_iff_not, ne_eq, Decidable.not_not] at hc18
   obtain ⟨m, k, rfl, rfl, hm, hk, hcl, hpl⟩ := check_spec hc18
   have hpw := pow_le16Mm hm
   have hr : rootF (m : Int) (k : Int) bs chs ps = upF (recF bs chs) k ps ps.length := if_pos hc18
   have he : recEr chs = 0 := if_pos hcl
   refine wpc_skip <| ex_then <| wpc_seq <| wpc_region <| wpl_q (q_pure rfl) rfl <| wpl_q (q_field Tryz.underlying28 rfl Tryz.ti26 rfl rfl _ rfl) rfl <| wpl_q (q_ld Tryz.underlying26 rfl rfl rfl) rfl ?_
   refine wpl_t (t_pur Tryz.hb75 rfl fun w h => recover _ _ _ _ w zz9 zz9 zz20 (glob h hG)) rfl (fun b25 => ?_)
   refine wpl_q (q_pure rfl) rfl <| wpl_q (q_pure rfl) rfl <| wpl_q (q_pure rfl) rfl ?_
   refine wpl_t (t_alloc Tryz.ti32 (v8s (List.replicate 16 0)) (by rfl)) rfl (fun b9 => ?_)
   refine wpl_t0 (t_stA Tryz.ti32 rfl rfl zz2 (v8s_one _) zz2) (fun _ => ?_)
   refine wpl_q (q_pure rfl) rfl <| wpl_nil <| ex_then <| wpc_seq <| wpc_region ?_
   refine wpl_q (q_ldN Tryz.underlying32 rfl Tryz.ti32 rfl zz2) rfl ?_
   refine wpl_q (q_field Tryz.underlying28 rfl Tryz.ti3 rfl rfl _ rfl) rfl ?_
   refine wpl_q (q_ld Tryz.underlying3 rfl rfl zz27) rfl ?_
   refine wpl_tp (t_callP2 Tryz.hb76 rfl fun w h => follower7 _ _ w zz21) rfl (fun b31 p31 => ?_)
   refine wpl_q (q_pure rfl) rfl <| wpl_nil <| ex_then <| wpc_seq <| wpc_seq <| wpc_region <| wpl_q (q_field Tryz.underlying28 rfl Tryz.ti26 rfl rfl _ rfl) rfl <| wpl_q (q_ld Tryz.underlying26 rfl rfl rfl) rfl ?_
   refine wpl_q (q_lenW Tryz.underlying26 rfl zz5) rfl ?_
   refine wpl_q (q_pure rfl) rfl <| wpl_nil <| ex_then <| wpc_block ?_
   refine wpc_loopc (ι := { x : Nat // (x ≤ ps.length) }) [(6, _), (9, _), (10, _), (11, _), (33, _), (34, _)] (fun x Lc => (35, .int .i64 ((x.1 : Nat) : Int)) :: Lc) (fun x => Mem w [] [.blk b31.1 3 [.int .i64 ((k / 2 ^ x.1 : Nat) : Int)], .blk b31.2 32 (v8s (upF (recF bs chs) k ps x.1)), .blk b9 32 (v8s (upF (recF bs chs) k ps x.1)), .blk b6 32 (v8s (List.replicate 16 0)), .blk b5 28 [.int .i64 ((k : Nat) : Int), cv, pv]] []) (fun x => ps.length - x.1) ⟨0, zz19⟩ zz10 ?_ ?_
   ·
    exact fun w h => by
      dsimp only
      rw [Nat.pow_zero, Nat.div_one, show upF (recF bs chs) k ps 0 = recF bs chs from rfl]
      first | exact h.sub SubC.h SubC.h | exact h.sub zz6 zz6
   ·
    rintro ⟨i, hi0⟩; try dsimp only
    have hi0 : i ≤ ps.length := hi0
    have hul := upF_length (recF_length bs chs) k ps i
    have hkl : k / 2 ^ i ≤ 1000 := Nat.le_trans (Nat.div_le_self _ _) zz16
    refine wpc_seq <| wpc_region <| wpl_q (q_pure rfl) rfl <| wpl_nil <| ex_then <| wpc_seq ?_
    refine wpc_cond rfl (fun hc36 => ?_) (fun hc36 => ?_)
    ·
     simp only [decide_eq_true_eq] at hc36
     have hgl := getD_mem_len hlps (i := i) zz16
     have hsl := stepU_length (upF (recF bs chs) k ps i) (k / 2 ^ i) (ps.getD i [])
     refine wpc_skip <| ex_then <| wpc_seq <| wpc_block <| wpc_seq <| wpc_region ?_
     refine wpl_q (q_idxW Tryz.underlying26 Tryz.ti32 rfl rfl zz5 zz1) rfl ?_
     refine wpl_q (q_ldWN Tryz.underlying32 rfl Tryz.ti32 rfl (fun w h => zz14) (v8s (ps.getD i [])) (part8 hlps zz16) ((v8s_length _).trans hgl)) rfl ?_
     refine wpl_t (t_alloc Tryz.ti32 (v8s (List.replicate 16 0)) (by rfl)) rfl (fun b13 => ?_)
     refine wpl_t0 (t_stA Tryz.ti32 rfl rfl zz2 (v8s_one _) zz2) (fun _ => ?_)
     refine wpl_nil <| ex_then <| wpc_region <| wpl_q (q_pure rfl) rfl ?_
     refine wpl_q (q_ldN Tryz.underlying32 rfl Tryz.ti32 rfl zz2) rfl ?_
     refine wpl_t (t_turnV2 b31.1 b31.2 [.int .i64 ((k / 2 ^ i / 2 ^ 1 : Nat) : Int)] (v8s (stepU (upF (recF bs chs) k ps i) (k / 2 ^ i) (ps.getD i []))) zz22 rfl Tryz.hb95 rfl fun w h h1 h2 hne => followed7 _ _ _ _ _ w hgl h1 h2 hne hul hkl (own_ne h hG zz7) (own_ne h hG zz7) (glob h hG)) rfl (fun b41 => ?_)
     refine wpl_t0 (t_stA Tryz.ti32 rfl rfl zz2 (v8s_one _) zz2) (fun _ => ?_)
     refine wpl_nil <| ex_block <| ex_then <| wpc_region ?_
     refine wpl_q (q_addN (b := 1) rfl rfl zz1) rfl ?_
     refine wpl_q (q_pure rfl) rfl <| wpl_nil ?_
     refine ex_again ⟨i + 1, zz19⟩ ?_ ?_ ?_
     ·
      exact zz10
     ·
      exact fun w h => by
        dsimp only
        rw [div_step, show upF (recF bs chs) k ps (i + 1) = stepU (upF (recF bs chs) k ps i) (k / 2 ^ i) (ps.getD i []) from rfl]
        first | exact h.sub SubC.h SubC.h | exact h.sub zz6 zz6
     ·
      (show ps.length - (i + 1) < ps.length - i); omega
    ·
     simp only [decide_eq_false_iff_not] at hc36
     obtain rfl : i = ps.length := by omega
     refine wpc_exit ?_
     refine ex_then_exit ?_
     refine ex_then_exit ?_
     refine ex_block_hit ?_
     refine ex_then <| wpc_seq <| wpc_region ?_
     refine wpl_q (q_ldN Tryz.underlying32 rfl Tryz.ti32 rfl zz2) rfl ?_
     refine wpl_q (q_pure rfl) rfl ?_
     refine wpl_t0 (t_stA Tryz.ti32 rfl rfl zz2 (v8s_one _) zz2) (fun _ => ?_)
     refine wpl_q (q_pure rfl) rfl <| wpl_nil <| ex_then <| wpc_ret ?_
     refine retv2 (.inl rfl) rfl (rv_agg Tryz.underlying32 rfl Tryz.ti32 rfl (fun w h => h.atB) zz2) (rv_tmp rfl) ?_
     exact fun w h => ⟨by rw [hr, hc18, he]; rfl, h.below⟩
theorem verify7 (rs : List UInt8) (ht : Int) (bv : Value) (bs : List UInt8) (cv pv : Value) (chs ps : List (List UInt8)) (idx : Int) (w : World) (hrs : rs.length = 16) (hbv : Seen w.cell? bv bs.length 1 (v8s bs)) (hcv : Seen w.cell? cv chs.length 16 (v8s chs.flatten)) (hlchs : ∀ x ∈ chs, x.length = 16) (hpv : Seen w.cell? pv ps.length 16 (v8s ps.flatten)) (hlps : ∀ x ∈ ps, x.length = 16) (hG : Glb w) :
    Calls Tryz.prog 23 [.agg (v8s rs ++ [Value.int .i64 ht]).toArray, bv, .agg #[.int .i64 idx, cv, pv]].toArray w (Pur w (.bool (decide (checkFMm ht idx chs.length ps.length = 0 ∧ rootF ht idx bs chs ps = rs)))) := by
  have sbv := hbv.sv
  have lbv := sbv.le
  simp only [maxLen] at lbv
  have scv := hcv.sv
  have lcv := scv.le
  simp only [maxLen] at lcv
  have spv := hpv.sv
  have lpv := spv.le
  simp only [maxLen] at lpv
  have hrl := rootF_length ht idx bs chs ps
  refine enter (m := 25) (R := Mem w [] [] []) Tryz.func23 rfl rfl (Nat.le_of_ble_eq_true rfl) (Mem.start w) ?_
  refine wpc_seq <| wpc_region ?_
  refine wpl_t (t_box rfl (v8s rs ++ [Value.int .i64 ht]) rfl) rfl (fun b3 => ?_)
  refine wpl_t (t_box rfl [.int .i64 idx, cv, pv] rfl) rfl (fun b5 => ?_)
  refine wpl_q (q_pure rfl) rfl <| wpl_nil <| ex_then <| wpc_seq <| wpc_region <| wpl_q (q_field Tryz.underlying34 rfl Tryz.ti3 rfl rfl _ rfl) rfl <| wpl_q (q_ld Tryz.underlying3 rfl rfl (key_height rs ht hrs)) rfl <| wpl_q (q_pure rfl) rfl ?_
  refine wpl_q (q_ldN Tryz.underlying28 rfl Tryz.ti28 rfl zz2) rfl ?_
  refine wpl_t (t_pur Tryz.hb46 rfl fun w h => root7 _ _ _ _ _ _ _ _ w zz9 zz9 zz20 zz9 zz20 (glob h hG)) rfl (fun b14 => ?_)
  refine wpl_q (q_pure rfl) rfl <| wpl_q (q_pure rfl) rfl <| wpl_q (q_pure rfl) rfl ?_
  refine wpl_t (t_alloc Tryz.ti32 (v8s (List.replicate 16 0)) (by rfl)) rfl (fun b7 => ?_)
  refine wpl_t0 (t_stA Tryz.ti32 rfl rfl zz2 (v8s_one _) zz2) (fun _ => ?_)
  refine wpl_q (q_pure rfl) rfl <| wpl_nil <| ex_then <| wpc_seq <| wpc_region <| wpl_q (q_pure rfl) rfl <| wpl_q (q_pure rfl) rfl <| wpl_q (q_pure rfl) rfl ?_
  refine wpl_bool2 19 18 rfl rfl (fun hb19 => ?_) (fun hb19 => ?_)
  ·
   try simp only [decide_eq_true_eq, decide_eq_false_iff_not, Bool.and_eq_true, Bool.or_eq_true, beq_iff_eq, bne_iff_ne, ne_eq, Bool.not_eq_true', Bool.not_eq_false', Decidable.not_not] at hb19
   refine wpl_on rfl rfl ?_
   refine wpl_q (q_ldN Tryz.underlying32 rfl Tryz.ti32 rfl zz2) rfl ?_
   refine wpl_on rfl rfl <| wpl_q (q_field Tryz.underlying34 rfl Tryz.ti32 rfl rfl _ rfl) rfl <| wpl_on rfl rfl <| wpl_q (q_ldP Tryz.underlying32 rfl Tryz.ti32 rfl (v8s rs) (key_root rs ht hrs) ((v8s_length _).trans hrs)) rfl <| wpl_on rfl rfl ?_
   refine wpl_q (q_eq8 eq8_32Mm zz8 rfl rfl zz41 zz41) rfl ?_
   refine wpl_q (q_pure rfl) rfl <| wpl_q (q_pure rfl) rfl <| wpl_nil <| ex_then <| wpc_ret ?_
   refine ret1 (.inl rfl) rfl rfl ?_
   exact fun w h => ⟨by simp [hb19], h.below⟩
  ·
   simp only [beq_eq_false_iff_ne, ne_eq] at hb19
   refine wpl_off rfl rfl rfl rfl <| wpl_off rfl rfl rfl rfl <| wpl_off rfl rfl rfl rfl <| wpl_off rfl rfl rfl rfl <| wpl_q (q_pure rfl) rfl <| wpl_q (q_pure rfl) rfl <| wpl_nil <| ex_then <| wpc_ret ?_
   refine ret1 (.inl rfl) rfl rfl ?_
   exact fun w h => ⟨by simp [hb19], h.below⟩
end Go.Proofs.YtgnablliekgbgaaGreatDoor
namespace Go.Proofs.YtgnablliekgbgaaGreatDoor
open Go Go.PL Go.RowKit
theorem take_getD (l : List UInt8) (i : Nat) (h : i < l.length) : l.take i ++ [l.getD i 0] = l.take (i + 1) := by
  rw [List.take_add_one, List.getD_eq_getElem?_getD, List.getElem?_eq_getElem h]; rfl
def leafF (s : List UInt8) (i : Nat) : List UInt8 := shortF (s ++ [of8 (i : Int), 254, 0])
theorem leafF_length (s : List UInt8) (i : Nat) : (leafF s i).length = 16 := by rw [leafF]; exact shortF_length _
instance l16_leaf {s : List UInt8} {i : Nat} : L16 (leafF s i) := ⟨leafF_length s i⟩
theorem refPower7Mm (m : Nat) (w : World)  (hm : m ≤ 30) :
    Calls Tryz.prog 37 [.int .i64 ((m : Nat) : Int)].toArray w (Pur w (.int .i64 ((2 ^ m : Nat) : Int))) := by
  refine enter (m := 14) (R := Mem w [] [] []) Tryz.func37 rfl rfl (Nat.le_of_ble_eq_true rfl) (Mem.start w) ?_
  refine wpc_seq <| wpc_region <| wpl_q (q_pure rfl) rfl <| wpl_nil <| ex_then <| wpc_seq <| wpc_region <| wpl_q (q_pure rfl) rfl <| wpl_nil <| ex_then <| wpc_seq <| wpc_seq ?_
  refine wpc_region <| wpl_q (q_pure rfl) rfl <| wpl_nil <| ex_then <| wpc_block ?_
  refine wpc_loopc (ι := { x : Nat × Nat // (x.1 ≤ m) ∧ (x.2 = 2 ^ x.1) }) [(0, _)] (fun x Lc => (4, .int .i64 ((x.1.1 : Nat) : Int)) :: (3, .int .i64 ((x.1.2 : Nat) : Int)) :: Lc) (fun x => Mem w [] [] []) (fun x => m - x.1.1) ⟨(0, 1), ⟨Nat.zero_le _, rfl⟩⟩ zz10 ?_ ?_
  ·
   exact fun w h => h
  ·
   rintro ⟨⟨i, s⟩, ⟨hi0, hi1⟩⟩; try dsimp only
   have hi0 : i ≤ m := hi0; have hi1 : s = 2 ^ i := hi1
   have hp : 2 ^ i ≤ 2 ^ 30 := Nat.pow_le_pow_right zz22 zz16
   refine wpc_seq <| wpc_seq <| wpc_region <| wpl_q (q_pure rfl) rfl <| wpl_q (q_pure rfl) rfl <| wpl_q (q_pure rfl) rfl <| wpl_nil <| ex_then ?_
   refine wpc_cond rfl (fun hc7 => ?_) (fun hc7 => ?_)
   ·
    try simp only [decide_eq_true_eq, decide_eq_false_iff_not, Bool.and_eq_true, Bool.or_eq_true, beq_iff_eq, bne_iff_ne, ne_eq, Bool.not_eq_true', Bool.not_eq_false', Decidable.not_not] at hc7
    refine wpc_skip <| ex_then <| wpc_seq <| wpc_block <| wpc_region <| wpl_q (q_pure rfl) rfl <| wpl_q (q_pure rfl) rfl ?_
    refine wpl_q (q_addN rfl rfl zz1) rfl ?_
    refine wpl_q (q_pure rfl) rfl <| wpl_nil <| ex_block <| ex_then <| wpc_region <| wpl_q (q_pure rfl) rfl ?_
    refine wpl_q (q_addN (b := 1) rfl rfl zz1) rfl ?_
    refine wpl_q (q_pure rfl) rfl <| wpl_nil ?_
    refine ex_again ⟨(i + 1, s + s), ⟨zz16, by rw [Nat.pow_succ]; omega⟩⟩ ?_ ?_ ?_
    ·
     exact zz10
    ·
     exact fun w h => by first | exact h | exact h.sub SubC.h SubC.h | exact h.sub zz6 zz6
    ·
     (show m - (i + 1) < m - i); omega
   ·
    simp only [decide_eq_false_iff_not] at hc7
    obtain rfl : i = m := by omega
    refine wpc_exit ?_
    refine ex_then_exit ?_
    refine ex_then_exit ?_
    refine ex_block_hit ?_
    refine ex_then <| wpc_seq <| wpc_region <| wpl_q (q_pure rfl) rfl <| wpl_q (q_pure rfl) rfl <| wpl_nil <| ex_then <| wpc_ret ?_
    refine ret1 (.inl rfl) rfl rfl ?_
    exact fun w h => ⟨by rw [hi1], h.below⟩
theorem refAdd7 (v : Value) (xs : List UInt8) (ys : List UInt8) (w : World) (hrow : (Ent.row v xs.length 5 1 (v8s xs)).at w) (sv : SV v xs.length) (hxl : xs.length ≤ 1000) (hys : ys.length = 16)  :
    Calls Tryz.prog 70 [v, .agg (v8s ys).toArray].toArray w (GivesR w (.row v xs.length 5 1 (v8s xs)) (xs.length + 16) 5 1 (v8s (xs ++ ys))) := by
  refine enter (m := 17) (R := Mem w (nums [(.row v xs.length 5 1 (v8s xs))]) [(.row v xs.length 5 1 (v8s xs))] []) Tryz.func70 rfl rfl (Nat.le_of_ble_eq_true rfl) (Mem.startR w hrow) ?_
  refine wpc_seq <| wpc_region ?_
  refine wpl_t (t_box rfl (v8s ys) rfl) rfl (fun b3 => ?_)
  refine wpl_q (q_pure rfl) rfl <| wpl_nil <| ex_then <| wpc_seq <| wpc_seq <| wpc_region <| wpl_q (q_pure rfl) rfl <| wpl_nil <| ex_then <| wpc_block ?_
  refine wpc_loopc (ι := { x : Nat × Value // (x.1 ≤ 16) ∧ (SV x.2 (xs.length + x.1)) }) [(3, _)] (fun x Lc => (5, .int .i64 ((x.1.1 : Nat) : Int)) :: (0, x.1.2) :: Lc) (fun x => Mem w (nums [(.row v xs.length 5 1 (v8s xs))]) [.blk b3 32 (v8s ys), .row x.1.2 (xs.length + x.1.1) 5 1 (v8s (xs ++ ys.take x.1.1))] []) (fun x => 16 - x.1.1) ⟨(0, v), ⟨Nat.zero_le _, sv⟩⟩ zz10 ?_ ?_
  ·
   exact fun w h => by
     dsimp only
     rw [List.take_zero, List.append_nil, Nat.add_zero]
     first | exact h.sub SubC.h SubC.h | exact h.sub zz6 zz6
  ·
   rintro ⟨⟨i, v2⟩, ⟨hi0, hi1⟩⟩; try dsimp only
   have hi0 : i ≤ 16 := hi0; have hi1 : SV v2 (xs.length + i) := hi1
   refine wpc_seq <| wpc_seq <| wpc_region <| wpl_q (q_pure rfl) rfl <| wpl_q (q_pure rfl) rfl <| wpl_nil <| ex_then ?_
   refine wpc_cond rfl (fun hc7 => ?_) (fun hc7 => ?_)
   ·
    simp only [decide_eq_true_eq] at hc7
    refine wpc_skip <| ex_then <| wpc_seq <| wpc_block <| wpc_region <| wpl_q (q_pure rfl) rfl <| wpl_q (q_pure rfl) rfl ?_
    refine wpl_q (q_idxA1 Tryz.underlying32 Tryz.ti5 rfl rfl zz16) rfl ?_
    refine wpl_q (q_ld Tryz.underlying5 rfl rfl zz38) rfl ?_
    refine wpl_tp (t_bsV (v8s [_]) Tryz.underlying49 Tryz.ti5 rfl rfl zz22 zz22 rfl (v8s_one _)) rfl (fun b14 p14 => ?_)
    refine wpl_tp (t_apW Tryz.underlying49 Tryz.ti5 rfl zz22 rfl rfl (fun w h => zz14) (v8s_one _) zz1 zz1 (v8s (xs ++ ys.take (i + 1))) (by rw [← take_getD ys i zz16, ← List.append_assoc, v8s_append (xs ++ ys.take i)])) rfl (fun b15 p15 => ?_)
    refine wpl_q (q_pure rfl) rfl <| wpl_nil <| ex_block <| ex_then <| wpc_region <| wpl_q (q_pure rfl) rfl ?_
    refine wpl_q (q_addN (b := 1) rfl rfl zz1) rfl ?_
    refine wpl_q (q_pure rfl) rfl <| wpl_nil ?_
    refine ex_again ⟨(i + 1, b15), ⟨zz16, p15⟩⟩ ?_ ?_ ?_
    ·
     exact zz10
    ·
     exact fun w h => by first | exact h | exact h.sub SubC.h SubC.h | exact h.sub zz6 zz6
    ·
     (show 16 - (i + 1) < 16 - i); omega
   ·
    simp only [decide_eq_false_iff_not] at hc7
    obtain rfl : i = 16 := by omega
    refine wpc_exit ?_
    refine ex_then_exit ?_
    refine ex_then_exit ?_
    refine ex_block_hit ?_
    refine ex_then <| wpc_seq <| wpc_region <| wpl_q (q_pure rfl) rfl <| wpl_q (q_pure rfl) rfl <| wpl_nil <| ex_then <| wpc_ret ?_
    refine ret1 (.inl rfl) rfl rfl ?_
    exact fun w h => ⟨v2, hi1, rfl, by
      rw [List.take_of_length_le zz16] at h
      first | exact h.sub SubC.h SubC.h | exact h.sub zz6 zz6⟩
theorem refJoined7 (xs : List UInt8) (ys : List UInt8) (w : World) (hxs : xs.length = 16) (hys : ys.length = 16)  :
    Calls Tryz.prog 72 [.agg (v8s xs).toArray, .agg (v8s ys).toArray].toArray w (Pur w (.agg (v8s (joinedF xs ys)).toArray)) := by
  refine enter (m := 11) (R := Mem w [] [] []) Tryz.func72 rfl rfl (Nat.le_of_ble_eq_true rfl) (Mem.start w) ?_
  refine wpc_seq <| wpc_region ?_
  refine wpl_t (t_box rfl (v8s xs) rfl) rfl (fun b2 => ?_)
  refine wpl_t (t_box rfl (v8s ys) rfl) rfl (fun b3 => ?_)
  refine wpl_t (t_alloc Tryz.ti32 (v8s (List.replicate 16 0)) (by rfl)) rfl (fun b4 => ?_)
  refine wpl_nil <| ex_then <| wpc_seq ?_
  refine wpc_draw 6 zz8 (fun _ h => h.drew) ?_
  refine wpd_q 1 rfl zz8 trivial (q_ldN Tryz.underlying32 rfl Tryz.ti32 rfl zz2) rfl (fun _ h => h) ?_
  refine wpd_q 3 rfl zz8 trivial (q_ldN Tryz.underlying32 rfl Tryz.ti32 rfl zz2) rfl (fun _ h => h) ?_
  refine wpd_tp 0 rfl zz8 trivial (t_bsV (v8s [(1 : UInt8)]) Tryz.underlying49 Tryz.ti5 rfl rfl zz22 zz22 rfl (v8s_one _)) rfl (fun _ => (fun w h => .inr (h.sub SubC.h SubC.h))) (fun b5 p5 => ?_)
  refine wpd_tp 2 rfl zz8 trivial (t_callR (m := 1) (m' := 17) (ys := v8s ([1] ++ xs)) Tryz.hb70 rfl fun w h hr => refAdd7 _ [1] xs w hr (by assumption) zz22 hxs) rfl (fun _ => (fun w h => .inr (h.sub SubC.h SubC.h))) (fun b7 p7 => ?_)
  refine wpd_tp 4 rfl zz8 trivial (t_callR (m := 17) (m' := 33) (ys := v8s ([1] ++ xs ++ ys)) Tryz.hb70 rfl fun w h hr => by
    have e : ([1] ++ xs : List UInt8).length = 17 := by simp [hxs]
    have h9 := refAdd7 b7 ([1] ++ xs) ys w (by rw [e]; exact hr) (by rw [e]; exact p7) zz16 hys
    rw [e] at h9; exact h9) rfl (fun _ => (fun w h => .inr (h.sub SubC.h SubC.h))) (fun b9 p9 => ?_)
  refine wpd_t 5 rfl zz8 trivial (t_pur Tryz.hb69 rfl fun w h => refShort _ _ w zz9 zz1) rfl (fun _ => (fun w h => .inr (h.sub SubC.h SubC.h))) (fun b10 => ?_)
  refine wpd_t0 6 rfl zz8 trivial (t_stA Tryz.ti32 rfl rfl zz2 (v8s_one _) zz2) (fun _ => skk rfl) (fun _ => ?_)
  refine wpd_done zz8 ?_
  refine ex_then <| wpc_ret ?_
  refine retv1 (.inl rfl) rfl (rv_agg Tryz.underlying32 rfl Tryz.ti32 rfl (fun w h => h.atB) zz2) ?_
  exact fun w h => ⟨rfl, h.below⟩
theorem refSeed7 (xs : List UInt8) (i : Nat) (w : World) (hxs : xs.length = 16)  :
    Calls Tryz.prog 39 [.agg (v8s xs).toArray, .int .i64 ((i : Nat) : Int)].toArray w (Pur w (.agg (v8s (leafF xs i)).toArray)) := by
  refine enter (m := 12) (R := Mem w [] [] []) Tryz.func39 rfl rfl (Nat.le_of_ble_eq_true rfl) (Mem.start w) ?_
  refine wpc_seq <| wpc_region ?_
  refine wpl_t (t_box rfl (v8s xs) rfl) rfl (fun b2 => ?_)
  refine wpl_t (t_alloc Tryz.ti32 (v8s (List.replicate 16 0)) (by rfl)) rfl (fun b4 => ?_)
  refine wpl_nil <| ex_then <| wpc_seq <| wpc_region ?_
  refine wpl_q (q_ldN Tryz.underlying32 rfl Tryz.ti32 rfl zz2) rfl ?_
  refine wpl_tp (t_callR0 (m' := 16) (ys := v8s xs) 5 1 Tryz.hb70 rfl fun w h hr => refAdd7 _ [] xs w hr SV.nil zz22 hxs) rfl (fun b6 p6 => ?_)
  refine wpl_q (q_pure rfl) rfl <| wpl_q (q8_conv Tryz.underlying3 Tryz.underlying5 rfl) rfl ?_
  refine wpl_tp (t_bsV (v8s [_, (254 : UInt8), (0 : UInt8)]) Tryz.underlying49 Tryz.ti5 rfl rfl zz22 zz22 rfl (v8s_one _)) rfl (fun b9 p9 => ?_)
  refine wpl_tp (t_apW Tryz.underlying49 Tryz.ti5 rfl zz22 rfl rfl (fun w h => zz14) (v8s_one _) zz1 zz1 _ zz18) rfl (fun b10 p10 => ?_)
  refine wpl_t (t_pur Tryz.hb69 rfl fun w h => refShort _ _ w zz9 zz1) rfl (fun b11 => ?_)
  refine wpl_t0 (t_stA Tryz.ti32 rfl rfl zz2 (v8s_one _) zz2) (fun _ => ?_)
  refine wpl_nil <| ex_then <| wpc_ret ?_
  refine retv1 (.inl rfl) rfl (rv_agg Tryz.underlying32 rfl Tryz.ti32 rfl (fun w h => h.atB) zz2) ?_
  exact fun w h => ⟨rfl, h.below⟩
theorem refCheck7Mm (ht : Int) (cv pv : Value) (chs ps : List (List UInt8)) (idx : Int) (w : World) (hcv : Seen w.cell? cv chs.length 16 (v8s chs.flatten)) (hlchs : ∀ x ∈ chs, x.length = 16) (hpv : Seen w.cell? pv ps.length 16 (v8s ps.flatten)) (hlps : ∀ x ∈ ps, x.length = 16)  :
    Calls Tryz.prog 66 [.int .i64 ht, .agg #[.int .i64 idx, cv, pv]].toArray w (Pur w (.int .i64 (checkFMm ht idx chs.length ps.length))) := by
  have scv := hcv.sv
  have lcv := scv.le
  simp only [maxLen] at lcv
  have spv := hpv.sv
  have lpv := spv.le
  simp only [maxLen] at lpv
  refine enter (m := 34) (R := Mem w [] [] []) Tryz.func66 rfl rfl (Nat.le_of_ble_eq_true rfl) (Mem.start w) ?_
  refine wpc_seq <| wpc_region ?_
  refine wpl_t (t_box rfl [.int .i64 idx, cv, pv] rfl) rfl (fun b3 => ?_)
  refine wpl_q (q_pure rfl) rfl <| wpl_nil <| ex_then <| wpc_seq <| wpc_seq <| wpc_region <| wpl_q (q_pure rfl) rfl <| wpl_q (q_pure rfl) rfl <| wpl_q (q_pure rfl) rfl ?_
  refine wpl_bool2 7 6 rfl rfl (fun hb7 => ?_) (fun hb7 => ?_)
  ·
   try simp only [decide_eq_true_eq, decide_eq_false_iff_not, Bool.and_eq_true, Bool.or_eq_true, beq_iff_eq, bne_iff_ne, ne_eq, Bool.not_eq_true', Bool.not_eq_false', Decidable.not_not] at hb7
   refine wpl_off rfl rfl rfl rfl <| wpl_off rfl rfl rfl rfl <| wpl_q (q_pure rfl) rfl <| wpl_nil <| ex_then ?_
   refine wpc_cond_t rfl ?_
   refine wpc_seq <| wpc_region <| wpl_q (q_pure rfl) rfl <| wpl_nil <| ex_then <| wpc_ret ?_
   refine ex_then_ret ?_
   refine ret1 (.inl rfl) rfl rfl ?_
   exact fun w h => ⟨by rw [check_2Mm (by first | omega | (simp only [decide_eq_true_eq] at *; omega))], h.below⟩
  ·
   try simp only [decide_eq_true_eq, decide_eq_false_iff_not, Bool.and_eq_true, Bool.or_eq_true, beq_iff_eq, bne_iff_ne, ne_eq, Bool.not_eq_true', Bool.not_eq_false', Decidable.not_not] at hb7
   refine wpl_on rfl rfl <| wpl_q (q_pure rfl) rfl <| wpl_on rfl rfl <| wpl_q (q_pure rfl) rfl <| wpl_q (q_pure rfl) rfl <| wpl_nil <| ex_then ?_
   refine wpc_cond rfl (fun hc10 => ?_) (fun hc10 => ?_)
   ·
    try simp only [decide_eq_true_eq, decide_eq_false_iff_not, Bool.and_eq_true, Bool.or_eq_true, beq_iff_eq, bne_iff_ne, ne_eq, Bool.not_eq_true', Bool.not_eq_false', Decidable.not_not] at hc10
    refine wpc_seq <| wpc_region <| wpl_q (q_pure rfl) rfl <| wpl_nil <| ex_then <| wpc_ret ?_
    refine ex_then_ret ?_
    refine ret1 (.inl rfl) rfl rfl ?_
    exact fun w h => ⟨by rw [check_2Mm (by first | omega | (simp only [decide_eq_true_eq] at *; omega))], h.below⟩
   ·
    simp only [decide_eq_false_iff_not, decide_eq_true_eq] at hc10
    obtain ⟨m, rfl⟩ : ∃ m : Nat, ht = (m : Int) := ⟨ht.toNat, zz16⟩
    have hpw := pow_le16Mm (m := m) zz16
    refine wpc_skip <| ex_then <| wpc_seq <| wpc_seq ?_
    refine wpc_draw 23 zz8 (fun _ h => h.drew) ?_
    refine wpd_p 0 rfl zz8 trivial (q_field Tryz.underlying28 rfl Tryz.ti3 rfl rfl _ rfl) rfl sk0 ?_
    refine wpd_q 1 rfl zz8 trivial (q_ld Tryz.underlying3 rfl rfl zz27) rfl (fun _ h => h) ?_
    refine wpd_p 2 rfl zz8 trivial (q_pure rfl) rfl sk0 ?_
    refine wpd_p 3 rfl zz8 trivial (q_pure rfl) rfl sk0 ?_
    refine wpd_bool2 14 13 rfl rfl (fun hb14 => ?_) (fun hb14 => ?_)
    ·
     try simp only [decide_eq_true_eq, decide_eq_false_iff_not, Bool.and_eq_true, Bool.or_eq_true, beq_iff_eq, bne_iff_ne, ne_eq, Bool.not_eq_true', Bool.not_eq_false', Decidable.not_not] at hb14
     refine wpd_off 4 rfl zz8 ⟨_, _, rfl, rfl, rfl⟩ rfl sk0 ?_
     refine wpd_off 5 rfl zz8 ⟨_, _, rfl, rfl, rfl⟩ rfl sk0 ?_
     refine wpd_off 6 rfl zz8 ⟨_, _, rfl, rfl, rfl⟩ rfl sk0 ?_
     refine wpd_off 7 rfl zz8 ⟨_, _, rfl, rfl, rfl⟩ rfl sk0 ?_
     refine wpd_off 8 rfl zz8 ⟨_, _, rfl, rfl, rfl⟩ rfl sk0 ?_
     refine wpd_p 9 rfl zz8 trivial (q_pure rfl) rfl sk0 ?_
     refine wpd_p 10 rfl zz8 trivial (q_pure rfl) rfl sk0 ?_
     refine wpd_off 11 rfl zz8 ⟨_, _, rfl, rfl, rfl⟩ rfl sk0 ?_
     refine wpd_off 12 rfl zz8 ⟨_, _, rfl, rfl, rfl⟩ rfl sk0 ?_
     refine wpd_off 13 rfl zz8 ⟨_, _, rfl, rfl, rfl⟩ rfl sk0 ?_
     refine wpd_off 14 rfl zz8 ⟨_, _, rfl, rfl, rfl⟩ rfl sk0 ?_
     refine wpd_p 15 rfl zz8 trivial (q_pure rfl) rfl sk0 ?_
     refine wpd_p 16 rfl zz8 trivial (q_pure rfl) rfl sk0 ?_
     refine wpd_off 17 rfl zz8 ⟨_, _, rfl, rfl, rfl⟩ rfl sk0 ?_
     refine wpd_off 18 rfl zz8 ⟨_, _, rfl, rfl, rfl⟩ rfl sk0 ?_
     refine wpd_off 19 rfl zz8 ⟨_, _, rfl, rfl, rfl⟩ rfl sk0 ?_
     refine wpd_off 20 rfl zz8 ⟨_, _, rfl, rfl, rfl⟩ rfl sk0 ?_
     refine wpd_off 21 rfl zz8 ⟨_, _, rfl, rfl, rfl⟩ rfl sk0 ?_
     refine wpd_p 22 rfl zz8 trivial (q_pure rfl) rfl sk0 ?_
     refine wpd_done zz8 ?_
     refine ex_then ?_
     refine wpc_cond_t rfl ?_
     refine wpc_seq <| wpc_region <| wpl_q (q_pure rfl) rfl <| wpl_nil <| ex_then <| wpc_ret ?_
     refine ex_then_ret ?_
     refine ret1 (.inl rfl) rfl rfl ?_
     exact fun w h => ⟨by rw [check_12Mm zz16 zz28], h.below⟩
    ·
     try simp only [decide_eq_true_eq, decide_eq_false_iff_not, Bool.and_eq_true, Bool.or_eq_true, beq_iff_eq, bne_iff_ne, ne_eq, Bool.not_eq_true', Bool.not_eq_false', Decidable.not_not] at hb14
     refine wpd_p 4 rfl zz8 ⟨_, rfl, rfl⟩ (q_field Tryz.underlying28 rfl Tryz.ti3 rfl rfl _ rfl) rfl sk0 ?_
     refine wpd_q 5 rfl zz8 ⟨_, rfl, rfl⟩ (q_ld Tryz.underlying3 rfl rfl zz27) rfl (fun _ h => h) ?_
     refine wpd_p 6 rfl zz8 ⟨_, rfl, rfl⟩ (q_pure rfl) rfl sk0 ?_
     refine wpd_t 7 rfl zz8 ⟨_, rfl, rfl⟩ (t_pur Tryz.hb37 rfl fun w h => refPower7Mm _ w zz16) rfl (fun _ => sk0) (fun b18 => ?_)
     refine wpd_p 8 rfl zz8 ⟨_, rfl, rfl⟩ (q_pure rfl) rfl sk0 ?_
     refine wpd_p 9 rfl zz8 trivial (q_pure rfl) rfl sk0 ?_
     refine wpd_p 10 rfl zz8 trivial (q_pure rfl) rfl sk0 ?_
     refine wpd_bool2 21 19 rfl rfl (fun hb21 => ?_) (fun hb21 => ?_)
     ·
      try simp only [decide_eq_true_eq, decide_eq_false_iff_not, Bool.and_eq_true, Bool.or_eq_true, beq_iff_eq, bne_iff_ne, ne_eq, Bool.not_eq_true', Bool.not_eq_false', Decidable.not_not] at hb21
      refine wpd_off 11 rfl zz8 ⟨_, _, rfl, rfl, rfl⟩ rfl sk0 ?_
      refine wpd_off 12 rfl zz8 ⟨_, _, rfl, rfl, rfl⟩ rfl sk0 ?_
      refine wpd_off 13 rfl zz8 ⟨_, _, rfl, rfl, rfl⟩ rfl sk0 ?_
      refine wpd_off 14 rfl zz8 ⟨_, _, rfl, rfl, rfl⟩ rfl sk0 ?_
      refine wpd_p 15 rfl zz8 trivial (q_pure rfl) rfl sk0 ?_
      refine wpd_p 16 rfl zz8 trivial (q_pure rfl) rfl sk0 ?_
      refine wpd_off 17 rfl zz8 ⟨_, _, rfl, rfl, rfl⟩ rfl sk0 ?_
      refine wpd_off 18 rfl zz8 ⟨_, _, rfl, rfl, rfl⟩ rfl sk0 ?_
      refine wpd_off 19 rfl zz8 ⟨_, _, rfl, rfl, rfl⟩ rfl sk0 ?_
      refine wpd_off 20 rfl zz8 ⟨_, _, rfl, rfl, rfl⟩ rfl sk0 ?_
      refine wpd_off 21 rfl zz8 ⟨_, _, rfl, rfl, rfl⟩ rfl sk0 ?_
      refine wpd_p 22 rfl zz8 trivial (q_pure rfl) rfl sk0 ?_
      refine wpd_done zz8 ?_
      refine ex_then ?_
      refine wpc_cond_t rfl ?_
      refine wpc_seq <| wpc_region <| wpl_q (q_pure rfl) rfl <| wpl_nil <| ex_then <| wpc_ret ?_
      refine ex_then_ret ?_
      refine ret1 (.inl rfl) rfl rfl ?_
      exact fun w h => ⟨by rw [check_12Mm zz16 zz28], h.below⟩
     ·
      try simp only [decide_eq_true_eq, decide_eq_false_iff_not, Bool.and_eq_true, Bool.or_eq_true, beq_iff_eq, bne_iff_ne, ne_eq, Bool.not_eq_true', Bool.not_eq_false', Decidable.not_not] at hb21
      refine wpd_p 11 rfl zz8 ⟨_, rfl, rfl⟩ (q_field Tryz.underlying28 rfl Tryz.ti26 rfl rfl _ rfl) rfl sk0 ?_
      refine wpd_q 12 rfl zz8 ⟨_, rfl, rfl⟩ (q_ld Tryz.underlying26 rfl rfl rfl) rfl (fun _ h => h) ?_
      refine wpd_p 13 rfl zz8 ⟨_, rfl, rfl⟩ (q_lenW Tryz.underlying26 rfl zz5) rfl sk0 ?_
      refine wpd_p 14 rfl zz8 ⟨_, rfl, rfl⟩ (q_pure rfl) rfl sk0 ?_
      refine wpd_p 15 rfl zz8 trivial (q_pure rfl) rfl sk0 ?_
      refine wpd_p 16 rfl zz8 trivial (q_pure rfl) rfl sk0 ?_
      refine wpd_bool2 27 25 rfl rfl (fun hb27 => ?_) (fun hb27 => ?_)
      ·
       try simp only [decide_eq_true_eq, decide_eq_false_iff_not, Bool.and_eq_true, Bool.or_eq_true, beq_iff_eq, bne_iff_ne, ne_eq, Bool.not_eq_true', Bool.not_eq_false', Decidable.not_not] at hb27
       refine wpd_off 17 rfl zz8 ⟨_, _, rfl, rfl, rfl⟩ rfl sk0 ?_
       refine wpd_off 18 rfl zz8 ⟨_, _, rfl, rfl, rfl⟩ rfl sk0 ?_
       refine wpd_off 19 rfl zz8 ⟨_, _, rfl, rfl, rfl⟩ rfl sk0 ?_
       refine wpd_off 20 rfl zz8 ⟨_, _, rfl, rfl, rfl⟩ rfl sk0 ?_
       refine wpd_off 21 rfl zz8 ⟨_, _, rfl, rfl, rfl⟩ rfl sk0 ?_
       refine wpd_p 22 rfl zz8 trivial (q_pure rfl) rfl sk0 ?_
       refine wpd_done zz8 ?_
       refine ex_then ?_
       refine wpc_cond_t rfl ?_
       refine wpc_seq <| wpc_region <| wpl_q (q_pure rfl) rfl <| wpl_nil <| ex_then <| wpc_ret ?_
       refine ex_then_ret ?_
       refine ret1 (.inl rfl) rfl rfl ?_
       exact fun w h => ⟨by rw [check_12Mm zz16 zz28], h.below⟩
      ·
       try simp only [decide_eq_true_eq, decide_eq_false_iff_not, Bool.and_eq_true, Bool.or_eq_true, beq_iff_eq, bne_iff_ne, ne_eq, Bool.not_eq_true', Bool.not_eq_false', Decidable.not_not] at hb27
       refine wpd_p 17 rfl zz8 ⟨_, rfl, rfl⟩ (q_field Tryz.underlying28 rfl Tryz.ti26 rfl rfl _ rfl) rfl sk0 ?_
       refine wpd_q 18 rfl zz8 ⟨_, rfl, rfl⟩ (q_ld Tryz.underlying26 rfl rfl rfl) rfl (fun _ h => h) ?_
       refine wpd_p 19 rfl zz8 ⟨_, rfl, rfl⟩ (q_lenW Tryz.underlying26 rfl zz5) rfl sk0 ?_
       refine wpd_p 20 rfl zz8 ⟨_, rfl, rfl⟩ (q_pure rfl) rfl sk0 ?_
       refine wpd_p 21 rfl zz8 ⟨_, rfl, rfl⟩ (q_pure rfl) rfl sk0 ?_
       refine wpd_p 22 rfl zz8 trivial (q_pure rfl) rfl sk0 ?_
       refine wpd_done zz8 ?_
       refine ex_then ?_
       refine wpc_cond rfl (fun hc33 => ?_) (fun hc33 => ?_)
       ·
        try simp only [decide_eq_true_eq, decide_eq_false_iff_not, Bool.and_eq_true, Bool.or_eq_true, beq_iff_eq, bne_iff_ne, ne_eq, Bool.not_eq_true', Bool.not_eq_false', Decidable.not_not] at hc33
        refine wpc_seq <| wpc_region <| wpl_q (q_pure rfl) rfl <| wpl_nil <| ex_then <| wpc_ret ?_
        refine ex_then_ret ?_
        refine ret1 (.inl rfl) rfl rfl ?_
        exact fun w h => ⟨by rw [check_12Mm zz16 zz28], h.below⟩
       ·
        simp only [bne_eq_false_iff_eq, decide_eq_false_iff_not, ne_eq, Decidable.not_not] at hc33 hb27
        refine wpc_skip <| ex_then <| wpc_seq <| wpc_region <| wpl_q (q_pure rfl) rfl <| wpl_nil <| ex_then <| wpc_ret ?_
        refine ret1 (.inl rfl) rfl rfl ?_
        exact fun w h => ⟨by rw [check_0Mm zz16 zz16], h.below⟩
end Go.Proofs.YtgnablliekgbgaaGreatDoor
