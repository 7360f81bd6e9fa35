/- What the statement reaches, in order. -/
import Derived.Test.YtgnablliekgbgaaDoorMXPLN
import Derived.Test.YtgnablliekgbgaaDoorMXPLL
import Derived.Test.YtgnablliekgbgaaDoorMXTI
import Derived.Lib.BufferRead
import Derived.Lib.ConvBytes
import Derived.Laws.IdiomStrings
import Derived.Test.YtgnablliekgbgaaDoorMXPLH
import Derived.Recover
import Derived.Test.YtgnablliekgbgaaDoorMXPLI
import Derived.Test.YtgnablliekgbgaaDoorMXPLZ
import Derived.WalkKit
import Derived.ProofKit
import Derived.OpenShut
import Derived.ChangeOld
import Derived.Below
import Derived.Carry
import Derived.LaidMore
import Derived.Deep.DeepHandedRow
import Derived.Deep.DeepWitnessRowRef
import Derived.Lib.LaidTab
import Derived.Stop.Joined
import Derived.Test.YtgnablliekgbgaaDoorMX4
set_option linter.unusedSimpArgs false
set_option linter.unusedVariables false
set_option maxRecDepth 100000
namespace Go.Proofs.YtgnablliekgbgaaDoor
open Go Go.PL Go.RowKit
def stepF (x : List UInt8) (i j : Nat) : List UInt8 := shortF (x ++ [of8 (i : Int), of8 (j : Int)])
def climbF (x : List UInt8) (i f : Nat) : Nat → List UInt8
  | 0 => x
  | n + 1 => stepF (climbF x i f n) i (f + n)
def digN (s : List UInt8) (k : Nat) : Nat := if k % 2 = 0 then (s.getD (k / 2) 0).toNat / 16 else (s.getD (k / 2) 0).toNat % 16
def digs (s : List UInt8) (n : Nat) : List Nat := (List.range n).map (digN s)
def dsum (s : List UInt8) : Nat → Nat
  | 0 => 0
  | n + 1 => dsum s n + (15 - digN s n)
def digsF (s : List UInt8) : List Nat := digs s 32 ++ [dsum s 32 / 256, dsum s 32 / 16 % 16, dsum s 32 % 16]
theorem stepF_length (x : List UInt8) (i j : Nat) : (stepF x i j).length = 16 := by rw [stepF]; exact shortF_length _
theorem climbF_length (x : List UInt8) (hx : x.length = 16) (i f : Nat) : ∀ n, (climbF x i f n).length = 16
  | 0 => hx
  | n + 1 => by rw [climbF]; exact stepF_length _ _ _
theorem digN_le (s : List UInt8) (k : Nat) : digN s k ≤ 15 := by
  have := (s.getD (k / 2) 0).toNat_lt
  unfold digN; split <;> omega
theorem digs_length (s : List UInt8) (n : Nat) : (digs s n).length = n := by simp [digs]
theorem digsF_length (s : List UInt8) : (digsF s).length = 35 := by simp [digsF, digs_length]
theorem digs_succ (s : List UInt8) (n : Nat) : digs s (n + 1) = digs s n ++ [digN s n] := by simp [digs, List.range_succ]
theorem dsum_le (s : List UInt8) : ∀ n, dsum s n ≤ 15 * n
  | 0 => Nat.le_refl _
  | n + 1 => by have := dsum_le s n; unfold dsum; omega
theorem sr4 (x : UInt8) : (sr8 x 4).toNat = x.toNat / 16 := by
  have := x.toNat_lt
  simp only [sr8, UInt8.toNat_ofNat']
  have : min 4 8 = 4 := rfl
  rw [this]; omega
theorem and15 (x : UInt8) : (x &&& 15).toNat = x.toNat % 16 := by
  rw [UInt8.toNat_and]; exact Nat.and_two_pow_sub_one_eq_mod _ 4
theorem nand15 (x : Nat) : x &&& 15 = x % 16 := Nat.and_two_pow_sub_one_eq_mod _ 4
theorem digs_two (s : List UInt8) (i : Nat) : digs s (2 * i) ++ [(sr8 (s.getD i 0) 4).toNat, (s.getD i 0 &&& 15).toNat] = digs s (2 * (i + 1)) := by
  rw [show 2 * (i + 1) = 2 * i + 1 + 1 from zz11, digs_succ, digs_succ, List.append_assoc]
  congr 1
  simp only [digN, sr4, and15]
  rw [if_pos zz11, if_neg zz11, show 2 * i / 2 = i from zz11, show (2 * i + 1) / 2 = i from zz11]; rfl
theorem dsum_two (s : List UInt8) (i : Nat) : dsum s (2 * i) + ((30 - (sr8 (s.getD i 0) 4).toNat) - (s.getD i 0 &&& 15).toNat) = dsum s (2 * (i + 1)) := by
  have h1 := digN_le s (2 * i)
  have h2 := digN_le s (2 * i + 1)
  rw [show 2 * (i + 1) = 2 * i + 1 + 1 from zz11, dsum, dsum]
  have e1 : digN s (2 * i) = (s.getD i 0).toNat / 16 := by unfold digN; rw [if_pos zz11, show 2 * i / 2 = i from zz11]
  have e2 : digN s (2 * i + 1) = (s.getD i 0).toNat % 16 := by unfold digN; rw [if_neg zz11, show (2 * i + 1) / 2 = i from zz11]
  rw [sr4, and15, ← e1, ← e2]; omega
theorem last3 (s : List UInt8) : digs s 32 ++ [dsum s 32 / 2 ^ 8, (dsum s 32 / 2 ^ 4) &&& 15, dsum s 32 &&& 15] = digsF s := by
  rw [nand15, nand15]; rfl
theorem digits (bv : Value) (bs : List UInt8) (w : World) (hbv : Seen w.cell? bv bs.length 1 (v8s bs)) (hG : Glb w) :
    Calls Tryd.prog 86 [bv].toArray w (GivesP w (fun v => SV v 35) (fun v : Value => v) (fun v => [.row v 35 3 1 (vns (digsF (shortF bs)))]) (fun _ => [])) := by
  have sbv := hbv.sv
  have lbv := sbv.le
  simp only [maxLen] at lbv
  refine enter (m := 42) (R := Mem w [] [] []) Tryd.func86 rfl rfl (Nat.le_of_ble_eq_true rfl) (Mem.start w) ?_
  refine wpc_seq <| wpc_region <| wpl_q (q_pure rfl) rfl <| wpl_nil <| ex_then <| wpc_seq <| wpc_region <| wpl_q (q_pure rfl) rfl <| wpl_nil <| ex_then <| wpc_seq <| wpc_region ?_
  refine wpl_q (q_pure rfl) rfl <| wpl_nil <| ex_then <| wpc_seq <| wpc_seq <| wpc_region <| wpl_q (q_pure rfl) rfl ?_
  refine wpl_t (t_pur Tryd.hb85 rfl fun w h => shortW _ _ w zz16 (glob h hG)) rfl (fun b10 => ?_)
  refine wpl_q (q_pure rfl) rfl <| wpl_nil <| ex_then <| wpc_block ?_
  refine wpc_loopc (ι := { x : Nat × Value // (x.1 ≤ 16) ∧ (SV x.2 (2 * x.1)) }) [(10, _)] (fun x Lc => (11, .int .i64 ((x.1.1 : Nat) : Int)) :: (3, x.1.2) :: (4, .int .i64 ((dsum (shortF bs) (2 * x.1.1) : Nat) : Int)) :: Lc) (fun x => Mem w [] [.row x.1.2 (2 * x.1.1) 3 1 (vns (digs (shortF bs) (2 * x.1.1)))] []) (fun x => 16 - x.1.1) ⟨(0, .slice none 0 0), ⟨Nat.zero_le _, SV.nil⟩⟩ zz9 ?_ ?_
  ·
   exact fun w h => h.nilRow 3 1
  ·
   rintro ⟨⟨i, v⟩, ⟨hi0, hi1⟩⟩; try dsimp only
   have hi0 : i ≤ 16 := hi0; have hi1 : SV v (2 * i) := hi1
   have hds := dsum_le (shortF bs) (2 * i)
   have hsl := shortF_length bs
   have hx1 := sr4 ((shortF bs).getD i 0)
   have hx2 := and15 ((shortF bs).getD i 0)
   have hx3 := ((shortF bs).getD i 0).toNat_lt
   refine wpc_seq <| wpc_region <| wpl_q (q_pure rfl) rfl <| wpl_nil <| ex_then <| wpc_seq ?_
   refine wpc_cond rfl (fun hc12 => ?_) (fun hc12 => ?_)
   ·
    try simp only [decide_eq_true_eq, decide_eq_false_iff_not, Bool.and_eq_true, Bool.or_eq_true, beq_iff_eq, bne_iff_ne, ne_eq, Bool.not_eq_true', Bool.not_eq_false', Decidable.not_not] at hc12
    refine wpc_skip <| ex_then <| wpc_seq <| wpc_block <| wpc_seq <| wpc_region ?_
    refine wpl_q (q_idxVN Tryd.underlying41 Tryd.ti5 Tryd.underlying5 rfl rfl rfl zz11 zz31) rfl ?_
    refine wpl_q (q_pure rfl) rfl <| wpl_nil <| ex_then <| wpc_seq <| wpc_region <| wpl_q (q_pure rfl) rfl ?_
    refine wpl_q (q8_shr rfl rfl zz25 4 rfl) rfl ?_
    refine wpl_q (q8_int Tryd.underlying5 Tryd.underlying3 rfl) rfl <| wpl_q (q_pure rfl) rfl ?_
    refine wpl_q (q8_and (b := (15 : UInt8)) rfl rfl) rfl ?_
    refine wpl_q (q8_int Tryd.underlying5 Tryd.underlying3 rfl) rfl <| wpl_q (q_pure rfl) rfl <| wpl_q (q_pure rfl) rfl <| wpl_nil <| ex_then <| wpc_seq <| wpc_region <| wpl_q (q_pure rfl) rfl <| wpl_q (q_pure rfl) rfl <| wpl_q (q_pure rfl) rfl ?_
    refine wpl_tp (t_bsV (vns [_, _]) Tryd.underlying146 Tryd.ti3 rfl rfl zz17 zz17 rfl (vns_one _)) rfl (fun b23 p23 => ?_)
    refine wpl_tp (t_apW Tryd.underlying146 Tryd.ti3 rfl zz17 rfl rfl (fun w h => zz10) (vns_one _) zz1 zz1 _ zz18) rfl (fun b24 p24 => ?_)
    refine wpl_q (q_pure rfl) rfl <| wpl_nil <| ex_then <| wpc_region <| wpl_q (q_pure rfl) rfl <| wpl_q (q_pure rfl) rfl ?_
    refine wpl_q (q_subN (a := 30) rfl rfl zz11 zz1) rfl ?_
    refine wpl_q (q_pure rfl) rfl ?_
    refine wpl_q (q_subN rfl rfl zz11 zz1) rfl ?_
    refine wpl_q (qop_eq (q_addN rfl rfl zz1) (by rw [dsum_two])) rfl ?_
    refine wpl_q (q_pure rfl) rfl <| wpl_nil <| ex_block <| ex_then <| wpc_region ?_
    refine wpl_q (q_addN (b := 1) rfl rfl zz1) rfl ?_
    refine wpl_q (q_pure rfl) rfl <| wpl_nil ?_
    refine ex_again ⟨(i + 1, b24), ⟨zz11, by rw [show 2 * (i + 1) = 2 * i + 2 from zz11]; exact p24⟩⟩ ?_ ?_ ?_
    ·
     exact zz9
    ·
     exact fun w h => by
       dsimp only
       rw [← digs_two, show 2 * (i + 1) = 2 * i + 2 from zz11]
       first | exact h.sub SubC.h SubC.h | exact h.sub zz7 zz7
    ·
     (show 16 - (i + 1) < 16 - i); omega
   ·
    simp only [decide_eq_false_iff_not] at hc12
    obtain rfl : i = 16 := by omega
    refine wpc_exit ?_
    refine ex_then_exit ?_
    refine ex_then_exit ?_
    refine ex_block_hit ?_
    refine ex_then <| wpc_seq <| wpc_region <| wpl_q (q_pure rfl) rfl <| wpl_q (q_pure rfl) rfl ?_
    refine wpl_q (q_shrN (b := 8) rfl rfl zz25) rfl ?_
    refine wpl_q (q_pure rfl) rfl ?_
    refine wpl_q (q_shrN (b := 4) rfl rfl zz25) rfl ?_
    refine wpl_q (q_andN (b := 15) rfl rfl zz1 zz1) rfl ?_
    refine wpl_q (q_pure rfl) rfl ?_
    refine wpl_q (q_andN (b := 15) rfl rfl zz1 zz1) rfl ?_
    refine wpl_tp (t_bsV (vns [_, _, _]) Tryd.underlying146 Tryd.ti3 rfl rfl zz17 zz17 rfl (vns_one _)) rfl (fun b40 p40 => ?_)
    refine wpl_tp (t_apW Tryd.underlying146 Tryd.ti3 rfl zz17 rfl rfl (fun w h => zz10) (vns_one _) zz1 zz1 (vns (digsF (shortF bs))) (by rw [← vns_append]; exact congrArg vns (last3 (shortF bs)))) rfl (fun b41 p41 => ?_)
    refine wpl_q (q_pure rfl) rfl <| wpl_nil <| ex_then <| wpc_ret ?_
    refine ret1 (.inl rfl) rfl rfl ?_
    exact fun w h => ⟨b41, p41, rfl, h.below, h.made SubC.h SubC.h⟩
end Go.Proofs.YtgnablliekgbgaaDoor
namespace Go.Proofs.YtgnablliekgbgaaDoor
open Go Go.PL Go.RowKit
def accF (E : Nat → List UInt8) : Nat → List UInt8
  | 0 => []
  | i + 1 => accF E i ++ E i
def dig (m : List UInt8) (i : Nat) : Nat := (digsF (shortF m)).getD i 0
def recE (m : List UInt8) (chs : List (List UInt8)) (i : Nat) : List UInt8 := climbF (chs.getD i []) i (dig m i) (15 - dig m i)
def recF (m : List UInt8) (chs : List (List UInt8)) : List UInt8 := if chs.length = 35 then shortF (accF (recE m chs) 35) else List.replicate 16 0
def recEr (chs : List (List UInt8)) : Int := if chs.length = 35 then 0 else 12
theorem dig_le (m : List UInt8) (i : Nat) : dig m i ≤ 15 := by
  have hd := dsum_le (shortF m) 32
  have : ∀ x ∈ digsF (shortF m), x ≤ 15 := by
    intro x hx
    unfold digsF at hx
    rcases List.mem_append.1 hx with hx | hx
    · obtain ⟨k, _, rfl⟩ := List.mem_map.1 hx
      exact digN_le _ _
    · simp only [List.mem_cons, List.not_mem_nil, or_false] at hx
      omega
  unfold dig
  rw [List.getD_eq_getElem?_getD]
  cases h : (digsF (shortF m))[i]? with
  | none => exact Nat.zero_le _
  | some x => exact this x (List.mem_of_getElem? h)
theorem recE_length (m : List UInt8) (chs : List (List UInt8)) (h : ∀ x ∈ chs, x.length = 16) (i : Nat) (hi : i < chs.length) : (recE m chs i).length = 16 := by
  rw [recE]; exact climbF_length _ (getD_mem_len h hi) _ _ _
theorem recF_length (m : List UInt8) (chs : List (List UInt8)) : (recF m chs).length = 16 := by
  unfold recF
  split
  · exact shortF_length _
  · exact List.length_replicate
theorem accF_len16 (E : Nat → List UInt8) (n : Nat) (h : ∀ i, i < n → (E i).length = 16) : ∀ k, k ≤ n → (accF E k).length = 16 * k
  | 0, _ => rfl
  | k + 1, hk => by rw [accF, List.length_append, accF_len16 E n h k zz11, h k zz11]; omega
theorem step (xs : List UInt8) (i : Nat) (j : Nat) (w : World) (hxs : xs.length = 16) (hG : Glb w) :
    Calls Tryd.prog 95 [.agg (v8s xs).toArray, .int .i64 ((i : Nat) : Int), .int .i64 ((j : Nat) : Int)].toArray w (Pur w (.agg (v8s (stepF xs i j)).toArray)) := by
  refine enter (m := 15) (R := Mem w [] [] []) Tryd.func95 rfl rfl (Nat.le_of_ble_eq_true rfl) (Mem.start w) ?_
  refine wpc_seq <| wpc_region ?_
  refine wpl_t (t_box rfl (v8s xs) rfl) rfl (fun b3 => ?_)
  refine wpl_t (t_alloc Tryd.ti41 (v8s (List.replicate 16 0)) (by rfl)) rfl (fun b6 => ?_)
  refine wpl_nil <| ex_then <| wpc_seq <| wpc_region <| wpl_q (q_arAll Tryd.underlying41 Tryd.ti5 rfl rfl) rfl <| wpl_q (q_pure rfl) rfl <| wpl_q (q8_conv Tryd.underlying3 Tryd.underlying5 rfl) rfl <| wpl_q (q_pure rfl) rfl <| wpl_q (q8_conv Tryd.underlying3 Tryd.underlying5 rfl) rfl ?_
  refine wpl_tp (t_bsV (v8s [_, _]) Tryd.underlying34 Tryd.ti5 rfl rfl zz17 zz17 rfl (v8s_one _)) rfl (fun b12 p12 => ?_)
  refine wpl_tp (t_apF Tryd.underlying34 Tryd.ti5 rfl rfl rfl (fun w h => zz10) (fun w h => zz10) zz1 zz1 zz1 _ zz18) rfl (fun b13 p13 => ?_)
  refine wpl_t (t_pur Tryd.hb85 rfl fun w h => shortW _ _ w zz16 (glob h hG)) rfl (fun b14 => ?_)
  refine wpl_t0 (t_stA Tryd.ti41 rfl rfl zz0 (v8s_one _) zz0) (fun _ => ?_)
  refine wpl_nil <| ex_then <| wpc_ret ?_
  refine retv1 (.inl rfl) rfl (rv_agg Tryd.underlying41 rfl Tryd.ti41 rfl (fun w h => h.atB) zz0) ?_
  exact fun w h => ⟨rfl, h.below⟩
theorem climb (xs : List UInt8) (i : Nat) (f : Nat) (t : Nat) (w : World) (hxs : xs.length = 16) (hG : Glb w) (hf : f ≤ 1000) (ht : t ≤ 1000) :
    Calls Tryd.prog 83 [.agg (v8s xs).toArray, .int .i64 ((i : Nat) : Int), .int .i64 ((f : Nat) : Int), .int .i64 ((t : Nat) : Int)].toArray w (Pur w (.agg (v8s (climbF xs i f (t - f))).toArray)) := by
  refine enter (m := 21) (R := Mem w [] [] []) Tryd.func83 rfl rfl (Nat.le_of_ble_eq_true rfl) (Mem.start w) ?_
  refine wpc_seq <| wpc_region ?_
  refine wpl_t (t_box rfl (v8s xs) rfl) rfl (fun b4 => ?_)
  refine wpl_t (t_alloc Tryd.ti41 (v8s (List.replicate 16 0)) (by rfl)) rfl (fun b8 => ?_)
  refine wpl_nil <| ex_then <| wpc_seq <| wpc_seq <| wpc_region <| wpl_q (q_pure rfl) rfl <| wpl_q (q_pure rfl) rfl <| wpl_nil <| ex_then <| wpc_block ?_
  refine wpc_loopc (ι := { x : Nat // (x ≤ t - f) }) [(1, _), (3, _), (4, _), (8, _)] (fun x Lc => (9, .int .i64 ((f + x.1 : Nat) : Int)) :: Lc) (fun x => Mem w [] [.blk b8 41 (v8s (List.replicate 16 0)), .blk b4 41 (v8s (climbF xs i f x.1))] []) (fun x => t - f - x.1) ⟨0, zz40⟩ zz9 ?_ ?_
  ·
   exact fun w h => h
  ·
   rintro ⟨n, hi0⟩; try dsimp only
   have hi0 : n ≤ t - f := hi0
   have hcl := climbF_length xs hxs i f n
   refine wpc_seq <| wpc_seq <| wpc_region <| wpl_q (q_pure rfl) rfl <| wpl_q (q_pure rfl) rfl <| wpl_q (q_pure rfl) rfl <| wpl_nil <| ex_then ?_
   refine wpc_cond rfl (fun hc13 => ?_) (fun hc13 => ?_)
   ·
    simp only [decide_eq_true_eq] at hc13
    refine wpc_skip <| ex_then <| wpc_seq <| wpc_block <| wpc_region ?_
    refine wpl_q (q_ldN Tryd.underlying41 rfl Tryd.ti41 rfl zz0) rfl ?_
    refine wpl_q (q_pure rfl) rfl <| wpl_q (q_pure rfl) rfl ?_
    refine wpl_t (t_pur Tryd.hb95 rfl fun w h => step _ _ _ w zz24 (glob h hG)) rfl (fun b19 => ?_)
    refine wpl_t0 (t_stA Tryd.ti41 rfl rfl zz0 (v8s_one _) zz0) (fun _ => ?_)
    refine wpl_nil <| ex_block <| ex_then <| wpc_region <| wpl_q (q_pure rfl) rfl ?_
    refine wpl_q (q_addN (b := 1) rfl rfl zz1) rfl ?_
    refine wpl_q (q_pure rfl) rfl <| wpl_nil ?_
    refine ex_again ⟨n + 1, zz40⟩ ?_ ?_ ?_
    ·
     exact zz9
    ·
     exact fun w h => by first | exact h | exact h.sub SubC.h SubC.h | exact h.sub zz7 zz7
    ·
     (show t - f - (n + 1) < t - f - n); omega
   ·
    simp only [decide_eq_false_iff_not] at hc13
    obtain rfl : n = t - f := by omega
    refine wpc_exit ?_
    refine ex_then_exit ?_
    refine ex_then_exit ?_
    refine ex_block_hit ?_
    refine ex_then <| wpc_seq <| wpc_region ?_
    refine wpl_q (q_ldN Tryd.underlying41 rfl Tryd.ti41 rfl zz0) rfl ?_
    refine wpl_t0 (t_stA Tryd.ti41 rfl rfl zz0 (v8s_one _) zz0) (fun _ => ?_)
    refine wpl_nil <| ex_then <| wpc_ret ?_
    refine retv1 (.inl rfl) rfl (rv_agg Tryd.underlying41 rfl Tryd.ti41 rfl (fun w h => h.atB) zz0) ?_
    exact fun w h => ⟨rfl, h.below⟩
theorem ends (cf : Nat) (cap : Array Value) (E : Nat → List UInt8) (w : World)  (hG : Glb w) (hcb : HasBody Tryd.prog cf) (hE : ∀ i, i < 35 → (E i).length = 16) (hcl : ∀ (i : Nat) (w1 : World), i < 35 → Mem w [] [] [] w1 → Calls Tryd.prog cf (#[.int .i64 ((i : Nat) : Int)] ++ cap) w1 (Pur w1 (.agg (v8s (E i)).toArray))) :
    Calls Tryd.prog 81 [.func (.func cf) #[] cap].toArray w (Pur w (.agg (v8s (shortF (accF E 35))).toArray)) := by
  refine enter (m := 18) (R := Mem w [] [] []) Tryd.func81 rfl rfl (Nat.le_of_ble_eq_true rfl) (Mem.start w) ?_
  refine wpc_seq <| wpc_region ?_
  refine wpl_t (t_alloc Tryd.ti41 (v8s (List.replicate 16 0)) (by rfl)) rfl (fun b2 => ?_)
  refine wpl_nil <| ex_then <| wpc_seq <| wpc_region <| wpl_q (q_pure rfl) rfl <| wpl_nil <| ex_then <| wpc_seq <| wpc_seq <| wpc_region <| wpl_q (q_pure rfl) rfl <| wpl_nil ?_
  refine ex_then <| wpc_block ?_
  refine wpc_loopc (ι := { x : Nat × Value // (x.1 ≤ 35) ∧ (SV x.2 (accF E x.1).length) }) [(0, _), (2, _)] (fun x Lc => (6, .int .i64 ((x.1.1 : Nat) : Int)) :: (3, x.1.2) :: Lc) (fun x => Mem w [] [.row x.1.2 (accF E x.1.1).length 5 1 (v8s (accF E x.1.1)), .blk b2 41 (v8s (List.replicate 16 0))] []) (fun x => 35 - x.1.1) ⟨(0, .slice none 0 0), ⟨Nat.zero_le _, SV.nil⟩⟩ zz9 ?_ ?_
  ·
   exact fun w h => h.nilRow 5 1
  ·
   rintro ⟨⟨i, v⟩, ⟨hi0, hi1⟩⟩; try dsimp only
   have hi0 : i ≤ 35 := hi0; have hi1 : SV v (accF E i).length := hi1
   have hal : i ≤ 35 → (accF E i).length ≤ 16 * 35 := fun hi => by rw [accF_len16 E 35 hE i hi]; omega
   have hal2 := hal hi0
   refine wpc_seq <| wpc_region <| wpl_q (q_pure rfl) rfl <| wpl_nil <| ex_then <| wpc_seq ?_
   refine wpc_cond rfl (fun hc7 => ?_) (fun hc7 => ?_)
   ·
    simp only [decide_eq_true_eq] at hc7
    have hEi := hE i zz11
    refine wpc_skip <| ex_then <| wpc_seq <| wpc_block <| wpc_seq <| wpc_region <| wpl_q (q_pure rfl) rfl <| wpl_q (q_pure rfl) rfl <| wpl_nil <| ex_then <| wpc_seq <| wpc_region ?_
    refine wpl_q (q_pure rfl) rfl <| wpl_q (q_pure rfl) rfl ?_
    refine wpl_t (t_purV rfl hcb rfl fun w h => hcl i w zz11 (h.sub .nil .nil)) rfl (fun b11 => ?_)
    refine wpl_t (t_alloc Tryd.ti41 (v8s (List.replicate 16 0)) (by rfl)) rfl (fun b5 => ?_)
    refine wpl_t0 (t_stA Tryd.ti41 rfl rfl zz0 (v8s_one _) zz0) (fun _ => ?_)
    refine wpl_nil <| ex_then <| wpc_region <| wpl_q (q_pure rfl) rfl <| wpl_q (q_arAll Tryd.underlying41 Tryd.ti5 rfl rfl) rfl ?_
    refine wpl_tp (t_apW Tryd.underlying34 Tryd.ti5 rfl zz17 rfl rfl (fun w h => zz10) (v8s_one _) zz1 zz1 _ zz18) rfl (fun b14 p14 => ?_)
    refine wpl_q (q_pure rfl) rfl <| wpl_nil <| ex_block <| ex_then <| wpc_region ?_
    refine wpl_q (q_addN (b := 1) rfl rfl zz1) rfl ?_
    refine wpl_q (q_pure rfl) rfl <| wpl_nil ?_
    refine ex_again ⟨(i + 1, b14), ⟨zz11, by rw [accF, List.length_append, hEi]; exact p14⟩⟩ ?_ ?_ ?_
    ·
     exact zz9
    ·
     exact fun w h => by
       dsimp only
       rw [accF, List.length_append, hEi]
       first | exact h.sub SubC.h SubC.h | exact h.sub zz7 zz7
    ·
     (show 35 - (i + 1) < 35 - i); omega
   ·
    simp only [decide_eq_false_iff_not] at hc7
    obtain rfl : i = 35 := by omega
    refine wpc_exit ?_
    refine ex_then_exit ?_
    refine ex_then_exit ?_
    refine ex_block_hit ?_
    refine ex_then <| wpc_seq <| wpc_region <| wpl_q (q_pure rfl) rfl ?_
    refine wpl_t (t_pur Tryd.hb85 rfl fun w h => shortW _ _ w zz16 (glob h hG)) rfl (fun b17 => ?_)
    refine wpl_t0 (t_stA Tryd.ti41 rfl rfl zz0 (v8s_one _) zz0) (fun _ => ?_)
    refine wpl_nil <| ex_then <| wpc_ret ?_
    refine retv1 (.inl rfl) rfl (rv_agg Tryd.underlying41 rfl Tryd.ti41 rfl (fun w h => h.atB) zz0) ?_
    exact fun w h => ⟨rfl, h.below⟩
theorem recover1 (i : Nat) (b1 b2 : Nat) (cv dv : Value) (chs : List (List UInt8)) (bs : List UInt8) (w : World) (hb1 : w.cell? ⟨b1, 0, none⟩ = some cv) (hb2 : w.cell? ⟨b2, 0, none⟩ = some dv) (hcv : Seen w.cell? cv chs.length 16 (v8s chs.flatten)) (hlc : ∀ x ∈ chs, x.length = 16) (hdv : Seen w.cell? dv 35 1 (vns (digsF (shortF bs)))) (hi : i < 35) (hcl : chs.length = 35) (hG : Glb w) :
    Calls Tryd.prog 91 [.int .i64 ((i : Nat) : Int), .pointer (some ⟨b1, 0, none⟩), .pointer (some ⟨b2, 0, none⟩)].toArray w (Pur w (.agg (v8s (recE bs chs i)).toArray)) := by
  have scv := hcv.sv
  have sdv := hdv.sv
  have hdl := digsF_length (shortF bs)
  have hdg : (digsF (shortF bs)).getD i 0 ≤ 15 := dig_le bs i
  have hgl := getD_mem_len hlc (i := i) zz11
  refine enter (m := 15) (R := Mem w [] [] []) Tryd.func91 rfl rfl (Nat.le_of_ble_eq_true rfl) (Mem.start w) ?_
  refine wpc_seq <| wpc_region ?_
  refine wpl_t (t_alloc Tryd.ti41 (v8s (List.replicate 16 0)) (by rfl)) rfl (fun b4 => ?_)
  refine wpl_nil <| ex_then <| wpc_seq ?_
  refine wpc_draw 10 zz6 (fun _ h => h.drew) ?_
  refine wpd_q 0 rfl zz6 trivial (q_load1 Tryd.underlying28 rfl rfl (fun w h => h.cell_old hb1)) rfl (fun _ h => h) ?_
  refine wpd_p 1 rfl zz6 trivial (q_pure rfl) rfl sk0 ?_
  refine wpd_p 2 rfl zz6 trivial (q_idxW Tryd.underlying28 Tryd.ti41 rfl rfl zz3 zz1) rfl sk0 ?_
  refine wpd_q 3 rfl zz6 trivial (q_ldWN Tryd.underlying41 rfl Tryd.ti41 rfl (fun w h => zz10) (v8s (chs.getD i [])) (part8 hlc zz11) ((v8s_length _).trans (getD_mem_len hlc zz11))) rfl (fun _ h => h) ?_
  refine wpd_p 4 rfl zz6 trivial (q_pure rfl) rfl sk0 ?_
  refine wpd_q 5 rfl zz6 trivial (q_load1 Tryd.underlying146 rfl rfl (fun w h => h.cell_old hb2)) rfl (fun _ h => h) ?_
  refine wpd_p 6 rfl zz6 trivial (q_pure rfl) rfl sk0 ?_
  refine wpd_p 7 rfl zz6 trivial (q_idxW1 Tryd.underlying146 Tryd.ti3 rfl rfl zz3 zz1) rfl sk0 ?_
  refine wpd_q 8 rfl zz6 trivial (q_ldW Tryd.underlying3 rfl rfl (fun w h => zz10) zz22) rfl (fun _ h => h) ?_
  refine wpd_t 9 rfl zz6 trivial (t_pur Tryd.hb83 rfl fun w h => climb _ _ _ 15 w zz24 (glob h hG) zz11 zz11) rfl (fun _ => sk0) (fun b14 => ?_)
  refine wpd_t0 10 rfl zz6 trivial (t_stA Tryd.ti41 rfl rfl zz0 (v8s_one _) zz0) (fun _ => skk rfl) (fun _ => ?_)
  refine wpd_done zz6 ?_
  refine ex_then <| wpc_ret ?_
  refine retv1 (.inl rfl) rfl (rv_agg Tryd.underlying41 rfl Tryd.ti41 rfl (fun w h => h.atB) ((v8s_length _).trans (recE_length bs chs hlc i zz11))) ?_
  exact fun w h => ⟨rfl, h.below⟩
theorem recover (bv : Value) (bs : List UInt8) (cv : Value) (chs : List (List UInt8)) (w : World) (hbv : Seen w.cell? bv bs.length 1 (v8s bs)) (hcv : Seen w.cell? cv chs.length 16 (v8s chs.flatten)) (hlchs : ∀ x ∈ chs, x.length = 16) (hG : Glb w) :
    Calls Tryd.prog 71 [bv, cv].toArray w (Pur w (.tuple #[.agg (v8s (recF bs chs)).toArray, .int .i64 (recEr chs)])) := by
  have sbv := hbv.sv
  have lbv := sbv.le
  simp only [maxLen] at lbv
  have scv := hcv.sv
  have lcv := scv.le
  simp only [maxLen] at lcv
  refine enter (m := 15) (R := Mem w [] [] []) Tryd.func71 rfl rfl (Nat.le_of_ble_eq_true rfl) (Mem.start w) ?_
  refine wpc_seq <| wpc_region ?_
  refine wpl_t (t_box rfl [cv] scv.cells) rfl (fun b3 => ?_)
  refine wpl_t (t_alloc Tryd.ti41 (v8s (List.replicate 16 0)) (by rfl)) rfl (fun b4 => ?_)
  refine wpl_q (q_pure rfl) rfl <| wpl_nil <| ex_then <| wpc_seq <| wpc_seq <| wpc_region ?_
  refine wpl_q (q_load1 Tryd.underlying28 rfl rfl (fun w h => h.cell_blk zz4 rfl)) rfl ?_
  refine wpl_q (q_lenW Tryd.underlying28 rfl zz3) rfl ?_
  refine wpl_q (q_pure rfl) rfl <| wpl_nil <| ex_then ?_
  refine wpc_cond rfl (fun hc9 => ?_) (fun hc9 => ?_)
  ·
   simp only [bne_iff_ne, ne_eq, decide_eq_true_eq] at hc9
   have hne : chs.length ≠ 35 := by omega
   have hr : recF bs chs = List.replicate 16 0 := if_neg hne
   have he : recEr chs = 12 := if_neg hne
   refine wpc_seq <| wpc_region ?_
   refine wpl_q (q_build (cs := (v8s (List.replicate 16 0))) rfl (built_array Tryd.underlying41 Tryd.ti41 Tryd.ti5 rfl)) rfl ?_
   refine wpl_t0 (t_stA Tryd.ti41 rfl rfl zz0 (v8s_one _) zz0) (fun _ => ?_)
   refine wpl_q (q_pure rfl) rfl <| wpl_nil <| ex_then <| wpc_ret ?_
   refine ex_then_ret ?_
   refine retv2 (.inl rfl) rfl (rv_agg Tryd.underlying41 rfl Tryd.ti41 rfl (fun w h => h.atB) zz0) (rv_tmp rfl) ?_
   exact fun w h => ⟨by rw [hr, he], h.below⟩
  ·
   simp only [bne_eq_false_iff_eq, decide_eq_false_iff_not, ne_eq, Decidable.not_not] at hc9
   have heq : chs.length = 35 := by omega
   have hr : recF bs chs = shortF (accF (recE bs chs) 35) := if_pos heq
   have he : recEr chs = 0 := if_pos heq
   refine wpc_skip <| ex_then <| wpc_seq <| wpc_region <| wpl_q (q_pure rfl) rfl ?_
   refine wpl_tp (t_callP1 Tryd.hb86 rfl fun w h => digits _ _ w zz16 (glob h hG)) rfl (fun b12 p12 => ?_)
   refine wpl_t (t_alloc Tryd.ti146 [.slice none 0 0] rfl) rfl (fun b6 => ?_)
   refine wpl_t0 (t_st1 Tryd.ti146 rfl rfl (SV.one zz3) zz5 _ rfl) (fun _ => ?_)
   refine wpl_nil <| ex_then <| wpc_seq <| wpc_region ?_
   refine wpl_q (q_fn (us := []) (vs := [_, _]) rfl rfl) rfl ?_
   refine wpl_t (t_pur Tryd.hb81 rfl fun w h => ends 91 _ (recE bs chs) w (glob h hG) Tryd.hb91 (fun i hi => recE_length bs chs hlchs i zz11) fun i w1 hi h1 => recover1 i b3 b6 cv b12 chs bs w1 (h1.cell_old (h.cell_blk zz4 rfl)) (h1.cell_old (h.cell_blk zz4 rfl)) (h1.seen_old (h.seen_old hcv)) hlchs (h1.seen_old h.seenV) hi heq (glob h1 (glob h hG))) rfl (fun b14 => ?_)
   refine wpl_t0 (t_stA Tryd.ti41 rfl rfl zz0 (v8s_one _) zz0) (fun _ => ?_)
   refine wpl_q (q_pure rfl) rfl <| wpl_nil <| ex_then <| wpc_ret ?_
   refine retv2 (.inl rfl) rfl (rv_agg Tryd.underlying41 rfl Tryd.ti41 rfl (fun w h => h.atB) zz0) (rv_tmp rfl) ?_
   exact fun w h => ⟨by rw [hr, he], h.below⟩
end Go.Proofs.YtgnablliekgbgaaDoor
namespace Go.Proofs.YtgnablliekgbgaaDoor
open Go Go.PL Go.RowKit
def joinedF (a b : List UInt8) : List UInt8 := shortF ([1] ++ a ++ b)
instance l16_short {s : List UInt8} : L16 (shortF s) := ⟨shortF_length s⟩
instance l16_rec {m : List UInt8} {c : List (List UInt8)} : L16 (recF m c) := ⟨recF_length m c⟩
theorem joinedF_length (a b : List UInt8) : (joinedF a b).length = 16 := by rw [joinedF]; exact shortF_length _
def checkFMm (ht idx : Int) (nc np : Nat) : Int := if 0 ≤ ht ∧ ht ≤ 4 then (if 0 ≤ idx ∧ idx < ((2 ^ ht.toNat : Nat) : Int) ∧ nc = 35 ∧ (np : Int) = ht then 0 else 12) else 2
theorem check_2Mm {ht idx : Int} {nc np : Nat} (h : ¬ (0 ≤ ht ∧ ht ≤ 4)) : checkFMm ht idx nc np = 2 := if_neg h
theorem check_inMm {m : Nat} {idx : Int} {nc np : Nat} (h : (m : Int) ≤ 4) : checkFMm m idx nc np = if 0 ≤ idx ∧ idx < ((2 ^ m : Nat) : Int) ∧ nc = 35 ∧ np = m then 0 else 12 := by
  unfold checkFMm
  rw [if_pos ⟨Int.natCast_nonneg m, h⟩, Int.toNat_natCast]
  simp only [Int.ofNat_inj]
theorem check_12Mm {m : Nat} {idx : Int} {nc np : Nat} (h : (m : Int) ≤ 4) (hn : ¬ (0 ≤ idx ∧ idx < ((2 ^ m : Nat) : Int) ∧ nc = 35 ∧ np = m)) : checkFMm m idx nc np = 12 := (check_inMm h).trans (if_neg hn)
theorem check_0Mm {m : Nat} {idx : Int} {nc np : Nat} (h : (m : Int) ≤ 4) (hn : 0 ≤ idx ∧ idx < ((2 ^ m : Nat) : Int) ∧ nc = 35 ∧ np = m) : checkFMm m idx nc np = 0 := (check_inMm h).trans (if_pos hn)
theorem check_spec {ht idx : Int} {nc np : Nat} (h : checkFMm ht idx nc np = 0) : ∃ m k : Nat, ht = (m : Int) ∧ idx = (k : Int) ∧ m ≤ 4 ∧ k < 2 ^ m ∧ nc = 35 ∧ np = m := by
  unfold checkFMm at h
  split at h
  · rename_i h1
    split at h
    · rename_i h2
      exact ⟨ht.toNat, idx.toNat, zz11, zz11, zz11, zz11, h2.2.2.1, zz11⟩
    · cases h
  · cases h
def stepU (x : List UInt8) (j : Nat) (p : List UInt8) : List UInt8 := if j % 2 = 0 then joinedF x p else joinedF p x
theorem stepU_length (x : List UInt8) (j : Nat) (p : List UInt8) : (stepU x j p).length = 16 := by unfold stepU; split <;> exact joinedF_length _ _
def upF (x : List UInt8) (k : Nat) (ps : List (List UInt8)) : Nat → List UInt8
  | 0 => x
  | i + 1 => stepU (upF x k ps i) (k / 2 ^ i) (ps.getD i [])
theorem upF_length {x : List UInt8} (hx : x.length = 16) (k : Nat) (ps : List (List UInt8)) : ∀ i, (upF x k ps i).length = 16
  | 0 => hx
  | i + 1 => by rw [upF]; exact stepU_length _ _ _
theorem pow_le16Mm {m : Nat} (h : m ≤ 4) : 2 ^ m ≤ 16 := Nat.le_trans (Nat.pow_le_pow_right zz17 h) zz17
theorem goodMm (ht : Int) (w : World)   :
    Calls Tryd.prog 32 [.int .i64 ht].toArray w (Pur w (.bool (decide (0 ≤ ht ∧ ht ≤ 4)))) := by
  refine enter (m := 9) (R := Mem w [] [] []) Tryd.func32 rfl rfl (Nat.le_of_ble_eq_true rfl) (Mem.start w) ?_
  refine wpc_seq <| wpc_region <| wpl_q (q_pure rfl) rfl <| wpl_nil <| ex_then <| wpc_seq <| wpc_region <| wpl_q (q_pure rfl) rfl <| wpl_q (q_pure rfl) rfl <| wpl_q (q_pure rfl) rfl ?_
  refine wpl_bool2 5 4 rfl rfl (fun hb5 => ?_) (fun hb5 => ?_)
  ·
   try simp only [decide_eq_true_eq, decide_eq_false_iff_not, Bool.and_eq_true, Bool.or_eq_true, beq_iff_eq, bne_iff_ne, ne_eq, Bool.not_eq_true', Bool.not_eq_false', Decidable.not_not] at hb5
   refine wpl_on rfl rfl <| wpl_q (q_pure rfl) rfl <| wpl_on rfl rfl <| wpl_q (q_pure rfl) rfl <| wpl_q (q_pure rfl) rfl <| wpl_q (q_pure rfl) rfl <| wpl_nil <| ex_then <| wpc_ret ?_
   refine ret1 (.inl rfl) rfl rfl ?_
   exact fun w h => ⟨by simp; omega, h.below⟩
  ·
   try simp only [decide_eq_true_eq, decide_eq_false_iff_not, Bool.and_eq_true, Bool.or_eq_true, beq_iff_eq, bne_iff_ne, ne_eq, Bool.not_eq_true', Bool.not_eq_false', Decidable.not_not] at hb5
   refine wpl_off rfl rfl rfl rfl <| wpl_off rfl rfl rfl rfl <| wpl_q (q_pure rfl) rfl <| wpl_q (q_pure rfl) rfl <| wpl_nil <| ex_then <| wpc_ret ?_
   refine ret1 (.inl rfl) rfl rfl ?_
   exact fun w h => ⟨by simp; omega, h.below⟩
theorem joined7 (xs : List UInt8) (ys : List UInt8) (w : World) (hxs : xs.length = 16) (hys : ys.length = 16) (hG : Glb w) :
    Calls Tryd.prog 58 [.agg (v8s xs).toArray, .agg (v8s ys).toArray].toArray w (Pur w (.agg (v8s (joinedF xs ys)).toArray)) := by
  refine enter (m := 11) (R := Mem w [] [] []) Tryd.func58 rfl rfl (Nat.le_of_ble_eq_true rfl) (Mem.start w) ?_
  refine wpc_seq <| wpc_region ?_
  refine wpl_t (t_box rfl (v8s xs) rfl) rfl (fun b2 => ?_)
  refine wpl_t (t_box rfl (v8s ys) rfl) rfl (fun b3 => ?_)
  refine wpl_t (t_alloc Tryd.ti41 (v8s (List.replicate 16 0)) (by rfl)) rfl (fun b4 => ?_)
  refine wpl_nil <| ex_then <| wpc_seq ?_
  refine wpc_draw 2 zz6 (fun _ h => h.drew) ?_
  refine wpd_p 1 rfl zz6 trivial (q_arAll Tryd.underlying41 Tryd.ti5 rfl rfl) rfl sk0 ?_
  refine wpd_p 3 rfl zz6 trivial (q_arAll Tryd.underlying41 Tryd.ti5 rfl rfl) rfl sk0 ?_
  refine wpd_tp 0 rfl zz6 trivial (t_bsV (v8s [(1 : UInt8)]) Tryd.underlying34 Tryd.ti5 rfl rfl zz17 zz17 rfl (v8s_one _)) rfl (fun _ => (fun w h => .inr (h.sub SubC.h SubC.h))) (fun b5 p5 => ?_)
  refine wpd_tp 2 rfl zz6 trivial (t_apW Tryd.underlying34 Tryd.ti5 rfl zz17 rfl rfl (fun w h => zz13) (v8s_one _) zz1 zz1 _ zz18) rfl (fun _ => skk rfl) (fun b7 p7 => ?_)
  refine wpd_tp 4 rfl zz6 trivial (t_apW Tryd.underlying34 Tryd.ti5 rfl zz17 rfl rfl (fun w h => zz13) (v8s_one _) zz1 zz1 _ zz18) rfl (fun _ => skk rfl) (fun b9 p9 => ?_)
  refine wpd_t 5 rfl zz6 trivial (t_pur Tryd.hb85 rfl fun w h => shortW _ _ w zz12 (glob h hG)) rfl (fun _ => skk rfl) (fun b10 => ?_)
  refine wpd_t0 6 rfl zz6 trivial (t_stA Tryd.ti41 rfl rfl zz2 (v8s_one _) zz2) (fun _ => skk rfl) (fun _ => ?_)
  refine wpd_done zz6 ?_
  refine ex_then <| wpc_ret ?_
  refine retv1 (.inl rfl) rfl (rv_agg Tryd.underlying41 rfl Tryd.ti41 rfl (fun w h => h.atB) zz2) ?_
  exact fun w h => ⟨rfl, h.below⟩
theorem check7Mm (ht : Int) (cv pv : Value) (chs ps : List (List UInt8)) (idx : Int) (w : World) (hcv : Seen w.cell? cv chs.length 16 (v8s chs.flatten)) (hlchs : ∀ x ∈ chs, x.length = 16) (hpv : Seen w.cell? pv ps.length 16 (v8s ps.flatten)) (hlps : ∀ x ∈ ps, x.length = 16)  :
    Calls Tryd.prog 31 [.int .i64 ht, .agg #[.int .i64 idx, cv, pv]].toArray w (Pur w (.int .i64 (checkFMm ht idx chs.length ps.length))) := by
  have scv := hcv.sv
  have lcv := scv.le
  simp only [maxLen] at lcv
  have spv := hpv.sv
  have lpv := spv.le
  simp only [maxLen] at lpv
  refine enter (m := 31) (R := Mem w [] [] []) Tryd.func31 rfl rfl (Nat.le_of_ble_eq_true rfl) (Mem.start w) ?_
  refine wpc_seq <| wpc_region ?_
  refine wpl_t (t_box rfl [.int .i64 idx, cv, pv] rfl) rfl (fun b3 => ?_)
  refine wpl_q (q_pure rfl) rfl <| wpl_nil <| ex_then <| wpc_seq <| wpc_seq <| wpc_region <| wpl_q (q_pure rfl) rfl ?_
  refine wpl_t (t_pur Tryd.hb32 rfl fun w h => goodMm _ w) rfl (fun b6 => ?_)
  refine wpl_q (q_pure rfl) rfl <| wpl_nil <| ex_then ?_
  refine wpc_cond rfl (fun hc7 => ?_) (fun hc7 => ?_)
  ·
   try simp only [decide_eq_true_eq, decide_eq_false_iff_not, Bool.and_eq_true, Bool.or_eq_true, beq_iff_eq, bne_iff_ne, ne_eq, Bool.not_eq_true', Bool.not_eq_false', Decidable.not_not] at hc7
   refine wpc_seq <| wpc_region <| wpl_q (q_pure rfl) rfl <| wpl_nil <| ex_then <| wpc_ret ?_
   refine ex_then_ret ?_
   refine ret1 (.inl rfl) rfl rfl ?_
   exact fun w h => ⟨by rw [check_2Mm hc7], h.below⟩
  ·
   simp only [Bool.not_eq_false', decide_eq_true_eq] at hc7
   obtain ⟨m, rfl⟩ : ∃ m : Nat, ht = (m : Int) := ⟨ht.toNat, zz11⟩
   have hpw := pow_le16Mm (m := m) zz11
   refine wpc_skip <| ex_then <| wpc_seq <| wpc_seq ?_
   refine wpc_draw 23 zz6 (fun _ h => h.drew) ?_
   refine wpd_p 0 rfl zz6 trivial (q_field Tryd.underlying30 rfl Tryd.ti3 rfl rfl _ rfl) rfl sk0 ?_
   refine wpd_q 1 rfl zz6 trivial (q_ld Tryd.underlying3 rfl rfl zz22) rfl (fun _ h => h) ?_
   refine wpd_p 2 rfl zz6 trivial (q_pure rfl) rfl sk0 ?_
   refine wpd_p 3 rfl zz6 trivial (q_pure rfl) rfl sk0 ?_
   refine wpd_bool2 11 10 rfl rfl (fun hb11 => ?_) (fun hb11 => ?_)
   ·
    try simp only [decide_eq_true_eq, decide_eq_false_iff_not, Bool.and_eq_true, Bool.or_eq_true, beq_iff_eq, bne_iff_ne, ne_eq, Bool.not_eq_true', Bool.not_eq_false', Decidable.not_not] at hb11
    refine wpd_off 4 rfl zz6 ⟨_, _, rfl, rfl, rfl⟩ rfl sk0 ?_
    refine wpd_off 5 rfl zz6 ⟨_, _, rfl, rfl, rfl⟩ rfl sk0 ?_
    refine wpd_off 6 rfl zz6 ⟨_, _, rfl, rfl, rfl⟩ rfl sk0 ?_
    refine wpd_off 7 rfl zz6 ⟨_, _, rfl, rfl, rfl⟩ rfl sk0 ?_
    refine wpd_off 8 rfl zz6 ⟨_, _, rfl, rfl, rfl⟩ rfl sk0 ?_
    refine wpd_p 9 rfl zz6 trivial (q_pure rfl) rfl sk0 ?_
    refine wpd_p 10 rfl zz6 trivial (q_pure rfl) rfl sk0 ?_
    refine wpd_off 11 rfl zz6 ⟨_, _, rfl, rfl, rfl⟩ rfl sk0 ?_
    refine wpd_off 12 rfl zz6 ⟨_, _, rfl, rfl, rfl⟩ rfl sk0 ?_
    refine wpd_off 13 rfl zz6 ⟨_, _, rfl, rfl, rfl⟩ rfl sk0 ?_
    refine wpd_off 14 rfl zz6 ⟨_, _, rfl, rfl, rfl⟩ rfl sk0 ?_
    refine wpd_p 15 rfl zz6 trivial (q_pure rfl) rfl sk0 ?_
    refine wpd_p 16 rfl zz6 trivial (q_pure rfl) rfl sk0 ?_
    refine wpd_off 17 rfl zz6 ⟨_, _, rfl, rfl, rfl⟩ rfl sk0 ?_
    refine wpd_off 18 rfl zz6 ⟨_, _, rfl, rfl, rfl⟩ rfl sk0 ?_
    refine wpd_off 19 rfl zz6 ⟨_, _, rfl, rfl, rfl⟩ rfl sk0 ?_
    refine wpd_off 20 rfl zz6 ⟨_, _, rfl, rfl, rfl⟩ rfl sk0 ?_
    refine wpd_off 21 rfl zz6 ⟨_, _, rfl, rfl, rfl⟩ rfl sk0 ?_
    refine wpd_p 22 rfl zz6 trivial (q_pure rfl) rfl sk0 ?_
    refine wpd_done zz6 ?_
    refine ex_then ?_
    refine wpc_cond_t rfl ?_
    refine wpc_seq <| wpc_region <| wpl_q (q_pure rfl) rfl <| wpl_nil <| ex_then <| wpc_ret ?_
    refine ex_then_ret ?_
    refine ret1 (.inl rfl) rfl rfl ?_
    exact fun w h => ⟨by rw [check_12Mm zz11 zz32], h.below⟩
   ·
    try simp only [decide_eq_true_eq, decide_eq_false_iff_not, Bool.and_eq_true, Bool.or_eq_true, beq_iff_eq, bne_iff_ne, ne_eq, Bool.not_eq_true', Bool.not_eq_false', Decidable.not_not] at hb11
    refine wpd_p 4 rfl zz6 ⟨_, rfl, rfl⟩ (q_field Tryd.underlying30 rfl Tryd.ti3 rfl rfl _ rfl) rfl sk0 ?_
    refine wpd_q 5 rfl zz6 ⟨_, rfl, rfl⟩ (q_ld Tryd.underlying3 rfl rfl zz22) rfl (fun _ h => h) ?_
    refine wpd_p 6 rfl zz6 ⟨_, rfl, rfl⟩ (q_pure rfl) rfl sk0 ?_
    refine wpd_p 7 rfl zz6 ⟨_, rfl, rfl⟩ (q_shlN (a := 1) rfl rfl zz25 zz1) rfl sk0 ?_
    refine wpd_p 8 rfl zz6 ⟨_, rfl, rfl⟩ (q_pure rfl) rfl sk0 ?_
    refine wpd_p 9 rfl zz6 trivial (q_pure rfl) rfl sk0 ?_
    refine wpd_p 10 rfl zz6 trivial (q_pure rfl) rfl sk0 ?_
    refine wpd_bool2 18 16 rfl rfl (fun hb18 => ?_) (fun hb18 => ?_)
    ·
     try simp only [decide_eq_true_eq, decide_eq_false_iff_not, Bool.and_eq_true, Bool.or_eq_true, beq_iff_eq, bne_iff_ne, ne_eq, Bool.not_eq_true', Bool.not_eq_false', Decidable.not_not] at hb18
     refine wpd_off 11 rfl zz6 ⟨_, _, rfl, rfl, rfl⟩ rfl sk0 ?_
     refine wpd_off 12 rfl zz6 ⟨_, _, rfl, rfl, rfl⟩ rfl sk0 ?_
     refine wpd_off 13 rfl zz6 ⟨_, _, rfl, rfl, rfl⟩ rfl sk0 ?_
     refine wpd_off 14 rfl zz6 ⟨_, _, rfl, rfl, rfl⟩ rfl sk0 ?_
     refine wpd_p 15 rfl zz6 trivial (q_pure rfl) rfl sk0 ?_
     refine wpd_p 16 rfl zz6 trivial (q_pure rfl) rfl sk0 ?_
     refine wpd_off 17 rfl zz6 ⟨_, _, rfl, rfl, rfl⟩ rfl sk0 ?_
     refine wpd_off 18 rfl zz6 ⟨_, _, rfl, rfl, rfl⟩ rfl sk0 ?_
     refine wpd_off 19 rfl zz6 ⟨_, _, rfl, rfl, rfl⟩ rfl sk0 ?_
     refine wpd_off 20 rfl zz6 ⟨_, _, rfl, rfl, rfl⟩ rfl sk0 ?_
     refine wpd_off 21 rfl zz6 ⟨_, _, rfl, rfl, rfl⟩ rfl sk0 ?_
     refine wpd_p 22 rfl zz6 trivial (q_pure rfl) rfl sk0 ?_
     refine wpd_done zz6 ?_
     refine ex_then ?_
     refine wpc_cond_t rfl ?_
     refine wpc_seq <| wpc_region <| wpl_q (q_pure rfl) rfl <| wpl_nil <| ex_then <| wpc_ret ?_
     refine ex_then_ret ?_
     refine ret1 (.inl rfl) rfl rfl ?_
     exact fun w h => ⟨by rw [check_12Mm zz11 zz32], h.below⟩
    ·
     try simp only [decide_eq_true_eq, decide_eq_false_iff_not, Bool.and_eq_true, Bool.or_eq_true, beq_iff_eq, bne_iff_ne, ne_eq, Bool.not_eq_true', Bool.not_eq_false', Decidable.not_not] at hb18
     refine wpd_p 11 rfl zz6 ⟨_, rfl, rfl⟩ (q_field Tryd.underlying30 rfl Tryd.ti28 rfl rfl _ rfl) rfl sk0 ?_
     refine wpd_q 12 rfl zz6 ⟨_, rfl, rfl⟩ (q_ld Tryd.underlying28 rfl rfl rfl) rfl (fun _ h => h) ?_
     refine wpd_p 13 rfl zz6 ⟨_, rfl, rfl⟩ (q_lenW Tryd.underlying28 rfl zz3) rfl sk0 ?_
     refine wpd_p 14 rfl zz6 ⟨_, rfl, rfl⟩ (q_pure rfl) rfl sk0 ?_
     refine wpd_p 15 rfl zz6 trivial (q_pure rfl) rfl sk0 ?_
     refine wpd_p 16 rfl zz6 trivial (q_pure rfl) rfl sk0 ?_
     refine wpd_bool2 24 22 rfl rfl (fun hb24 => ?_) (fun hb24 => ?_)
     ·
      try simp only [decide_eq_true_eq, decide_eq_false_iff_not, Bool.and_eq_true, Bool.or_eq_true, beq_iff_eq, bne_iff_ne, ne_eq, Bool.not_eq_true', Bool.not_eq_false', Decidable.not_not] at hb24
      refine wpd_off 17 rfl zz6 ⟨_, _, rfl, rfl, rfl⟩ rfl sk0 ?_
      refine wpd_off 18 rfl zz6 ⟨_, _, rfl, rfl, rfl⟩ rfl sk0 ?_
      refine wpd_off 19 rfl zz6 ⟨_, _, rfl, rfl, rfl⟩ rfl sk0 ?_
      refine wpd_off 20 rfl zz6 ⟨_, _, rfl, rfl, rfl⟩ rfl sk0 ?_
      refine wpd_off 21 rfl zz6 ⟨_, _, rfl, rfl, rfl⟩ rfl sk0 ?_
      refine wpd_p 22 rfl zz6 trivial (q_pure rfl) rfl sk0 ?_
      refine wpd_done zz6 ?_
      refine ex_then ?_
      refine wpc_cond_t rfl ?_
      refine wpc_seq <| wpc_region <| wpl_q (q_pure rfl) rfl <| wpl_nil <| ex_then <| wpc_ret ?_
      refine ex_then_ret ?_
      refine ret1 (.inl rfl) rfl rfl ?_
      exact fun w h => ⟨by rw [check_12Mm zz11 zz32], h.below⟩
     ·
      try simp only [decide_eq_true_eq, decide_eq_false_iff_not, Bool.and_eq_true, Bool.or_eq_true, beq_iff_eq, bne_iff_ne, ne_eq, Bool.not_eq_true', Bool.not_eq_false', Decidable.not_not] at hb24
      refine wpd_p 17 rfl zz6 ⟨_, rfl, rfl⟩ (q_field Tryd.underlying30 rfl Tryd.ti28 rfl rfl _ rfl) rfl sk0 ?_
      refine wpd_q 18 rfl zz6 ⟨_, rfl, rfl⟩ (q_ld Tryd.underlying28 rfl rfl rfl) rfl (fun _ h => h) ?_
      refine wpd_p 19 rfl zz6 ⟨_, rfl, rfl⟩ (q_lenW Tryd.underlying28 rfl zz3) rfl sk0 ?_
      refine wpd_p 20 rfl zz6 ⟨_, rfl, rfl⟩ (q_pure rfl) rfl sk0 ?_
      refine wpd_p 21 rfl zz6 ⟨_, rfl, rfl⟩ (q_pure rfl) rfl sk0 ?_
      refine wpd_p 22 rfl zz6 trivial (q_pure rfl) rfl sk0 ?_
      refine wpd_done zz6 ?_
      refine ex_then ?_
      refine wpc_cond rfl (fun hc30 => ?_) (fun hc30 => ?_)
      ·
       try simp only [decide_eq_true_eq, decide_eq_false_iff_not, Bool.and_eq_true, Bool.or_eq_true, beq_iff_eq, bne_iff_ne, ne_eq, Bool.not_eq_true', Bool.not_eq_false', Decidable.not_not] at hc30
       refine wpc_seq <| wpc_region <| wpl_q (q_pure rfl) rfl <| wpl_nil <| ex_then <| wpc_ret ?_
       refine ex_then_ret ?_
       refine ret1 (.inl rfl) rfl rfl ?_
       exact fun w h => ⟨by rw [check_12Mm zz11 zz32], h.below⟩
      ·
       simp only [bne_eq_false_iff_eq, decide_eq_false_iff_not, ne_eq, Decidable.not_not] at hc30 hb24
       refine wpc_skip <| ex_then <| wpc_seq <| wpc_region <| wpl_q (q_pure rfl) rfl <| wpl_nil <| ex_then <| wpc_ret ?_
       refine ret1 (.inl rfl) rfl rfl ?_
       exact fun w h => ⟨by rw [check_0Mm zz11 zz11], h.below⟩
end Go.Proofs.YtgnablliekgbgaaDoor
namespace Go.Proofs.YtgnablliekgbgaaDoor
open Go Go.PL Go.RowKit
def rootF (ht idx : Int) (bs : List UInt8) (chs ps : List (List UInt8)) : List UInt8 := if checkFMm ht idx chs.length ps.length = 0 then upF (recF bs chs) idx.toNat ps ps.length else List.replicate 16 0
theorem rootF_length (ht idx : Int) (bs : List UInt8) (chs ps : List (List UInt8)) : (rootF ht idx bs chs ps).length = 16 := by
  unfold rootF; split
  · exact upF_length (recF_length _ _) _ _ _
  · exact List.length_replicate
theorem globL {w0 w : World} {Ln : List Nat} {M : List Ent} {S : List Fact} (h : Mem w0 Ln M S w) (hl : 0 ∉ Ln) (hG : Glb w0) : Glb w := ⟨h.at_oldL hG.1 hl, Nat.lt_of_lt_of_le hG.2 h.size⟩
theorem own_ne {w0 w : World} {M : List Ent} {S : List Fact} {b : Nat} {t : TypeId} {cs : List Value} (h : Mem w0 [] M S w) (hG : Glb w0) (hm : Ent.blk b t cs ∈ M) : b ≠ 0 := by
  have h1 := h.new _ hm b rfl
  have h2 := hG.2
  simp only [List.not_mem_nil, or_false] at h1
  omega
theorem key_height (rs : List UInt8) (ht : Int) (h : rs.length = 16) : (v8s rs ++ [Value.int .i64 ht])[16]? = some (.int .i64 ht) := by
  rw [List.getElem?_append_right (by rw [v8s_length]; omega), v8s_length, h]; rfl
theorem key_root (rs : List UInt8) (ht : Int) (h : rs.length = 16) : ((v8s rs ++ [Value.int .i64 ht]).drop 0).take 16 = v8s rs := by
  rw [List.drop_zero, List.take_left' (by rw [v8s_length]; exact h)]
theorem div_step (k i : Nat) : k / 2 ^ (i + 1) = k / 2 ^ i / 2 ^ 1 := by rw [Nat.pow_succ, Nat.div_div_eq_div_mul]
theorem followed7 (ys : List UInt8) (bi bn : Nat) (xs : List UInt8) (j : Nat) (w : World) (hys : ys.length = 16) (hi : w.heap[bi]? = some (.cells ([.int .i64 ((j : Nat) : Int)] : List Value).toArray 3 (0, 0))) (hn : w.heap[bn]? = some (.cells (v8s xs).toArray 41 (0, 0))) (hne : bi ≠ bn) (hxs : xs.length = 16) (hj : j ≤ 1000) (hi0 : bi ≠ 0) (hn0 : bn ≠ 0) (hG : Glb w) :
    Calls Tryd.prog 92 [.agg (v8s ys).toArray, .pointer (some ⟨bi, 0, none⟩), .pointer (some ⟨bn, 0, none⟩)].toArray w (GivesL w [bi, bn] (fun _ : Unit => .agg (v8s (stepU xs j ys)).toArray) fun _ => [.blk bi 3 [.int .i64 ((j / 2 ^ 1 : Nat) : Int)], .blk bn 41 (v8s (stepU xs j ys))]) := by
  have h0 : (0 : Nat) ∉ [bi, bn] := by simp; omega
  have hjl1 := joinedF_length xs ys
  have hjl2 := joinedF_length ys xs
  have hjl3 := stepU_length xs j ys
  refine enter (m := 17) (R := Mem w [bi, bn] [.blk bi 3 [.int .i64 ((j : Nat) : Int)], .blk bn 41 (v8s xs)] []) Tryd.func92 rfl rfl (Nat.le_of_ble_eq_true rfl) (Mem.start2 w hi hn hne) ?_
  refine wpc_seq <| wpc_region ?_
  refine wpl_t (t_box rfl (v8s ys) rfl) rfl (fun b3 => ?_)
  refine wpl_t (t_alloc Tryd.ti41 (v8s (List.replicate 16 0)) (by rfl)) rfl (fun b4 => ?_)
  refine wpl_nil <| ex_then <| wpc_seq <| wpc_seq <| wpc_region ?_
  refine wpl_q (q_ld Tryd.underlying3 rfl rfl zz22) rfl ?_
  refine wpl_q (q_andN (b := 1) rfl rfl zz1 zz1) rfl ?_
  refine wpl_q (q_pure rfl) rfl <| wpl_nil <| ex_then ?_
  refine wpc_cond rfl (fun hc7 => ?_) (fun hc7 => ?_)
  ·
   try simp only [decide_eq_true_eq, beq_iff_eq] at hc7
   have hst : stepU xs j ys = joinedF xs ys := if_pos (by have := Nat.and_one_is_mod j; omega)
   refine wpc_region ?_
   refine wpl_q (q_ldN Tryd.underlying41 rfl Tryd.ti41 rfl zz2) rfl ?_
   refine wpl_q (q_ldN Tryd.underlying41 rfl Tryd.ti41 rfl zz2) rfl ?_
   refine wpl_t (t_pur Tryd.hb58 rfl fun w h => joined7 _ _ w zz42 zz42 (globL h h0 hG)) rfl (fun b10 => ?_)
   refine wpl_t0 (t_stA Tryd.ti41 rfl rfl zz2 (v8s_one _) zz2) (fun _ => ?_)
   refine wpl_nil <| ex_then <| wpc_seq <| wpc_region ?_
   refine wpl_q (q_ld Tryd.underlying3 rfl rfl zz22) rfl ?_
   refine wpl_q (q_shrN (b := 1) rfl rfl zz25) rfl ?_
   refine wpl_t0 (t_st1 Tryd.ti3 rfl rfl rfl zz5 _ (by first | exact vns_set _ | rfl)) (fun _ => ?_)
   refine wpl_nil <| ex_then <| wpc_seq <| wpc_region ?_
   refine wpl_q (q_ldN Tryd.underlying41 rfl Tryd.ti41 rfl zz2) rfl ?_
   refine wpl_t0 (t_stA Tryd.ti41 rfl rfl zz2 (v8s_one _) zz2) (fun _ => ?_)
   refine wpl_nil <| ex_then <| wpc_ret ?_
   refine retv1 (.inl rfl) rfl (rv_agg Tryd.underlying41 rfl Tryd.ti41 rfl (fun w h => h.atB) zz2) ?_
   exact fun w h => by
     rw [hst]
     exact ⟨(), rfl, h.sub (.drop (.drop (Sub.refl _))) (Sub.refl _)⟩
  ·
   try simp only [decide_eq_false_iff_not, beq_eq_false_iff_ne, ne_eq] at hc7
   have hst : stepU xs j ys = joinedF ys xs := if_neg (by have := Nat.and_one_is_mod j; omega)
   refine wpc_region ?_
   refine wpl_q (q_ldN Tryd.underlying41 rfl Tryd.ti41 rfl zz2) rfl ?_
   refine wpl_q (q_ldN Tryd.underlying41 rfl Tryd.ti41 rfl zz2) rfl ?_
   refine wpl_t (t_pur Tryd.hb58 rfl fun w h => joined7 _ _ w zz42 zz42 (globL h h0 hG)) rfl (fun b13 => ?_)
   refine wpl_t0 (t_stA Tryd.ti41 rfl rfl zz2 (v8s_one _) zz2) (fun _ => ?_)
   refine wpl_nil <| ex_then <| wpc_seq <| wpc_region ?_
   refine wpl_q (q_ld Tryd.underlying3 rfl rfl zz22) rfl ?_
   refine wpl_q (q_shrN (b := 1) rfl rfl zz25) rfl ?_
   refine wpl_t0 (t_st1 Tryd.ti3 rfl rfl rfl zz5 _ (by first | exact vns_set _ | rfl)) (fun _ => ?_)
   refine wpl_nil <| ex_then <| wpc_seq <| wpc_region ?_
   refine wpl_q (q_ldN Tryd.underlying41 rfl Tryd.ti41 rfl zz2) rfl ?_
   refine wpl_t0 (t_stA Tryd.ti41 rfl rfl zz2 (v8s_one _) zz2) (fun _ => ?_)
   refine wpl_nil <| ex_then <| wpc_ret ?_
   refine retv1 (.inl rfl) rfl (rv_agg Tryd.underlying41 rfl Tryd.ti41 rfl (fun w h => h.atB) zz2) ?_
   exact fun w h => by
     rw [hst]
     exact ⟨(), rfl, h.sub (.drop (.drop (Sub.refl _))) (Sub.refl _)⟩
theorem follower7 (xs : List UInt8) (k : Nat) (w : World) (hxs : xs.length = 16)  :
    Calls Tryd.prog 72 [.agg (v8s xs).toArray, .int .i64 ((k : Nat) : Int)].toArray w (GivesP w (fun _ : Nat × Nat => True) (fun b : Nat × Nat => .func (.func 92) #[] #[.pointer (some ⟨b.1, 0, none⟩), .pointer (some ⟨b.2, 0, none⟩)]) (fun b => [.blk b.1 3 [.int .i64 ((k : Nat) : Int)], .blk b.2 41 (v8s xs)]) (fun _ => [])) := by
  refine enter (m := 6) (R := Mem w [] [] []) Tryd.func72 rfl rfl (Nat.le_of_ble_eq_true rfl) (Mem.start w) ?_
  refine wpc_seq <| wpc_region ?_
  refine wpl_t (t_box rfl (v8s xs) rfl) rfl (fun b2 => ?_)
  refine wpl_t (t_box rfl [.int .i64 ((k : Nat) : Int)] rfl) rfl (fun b3 => ?_)
  refine wpl_q (q_pure rfl) rfl <| wpl_nil <| ex_then <| wpc_seq <| wpc_region ?_
  refine wpl_q (q_fn (us := []) (vs := [_, _]) rfl rfl) rfl ?_
  refine wpl_q (q_pure rfl) rfl <| wpl_nil <| ex_then <| wpc_ret ?_
  refine ret1 (.inl rfl) rfl rfl ?_
  exact fun w h => ⟨(b3, b2), trivial, rfl, h.below, h.made (.keep (.keep .nil)) .nil⟩
theorem root7 (ht : Int) (bv : Value) (bs : List UInt8) (cv pv : Value) (chs ps : List (List UInt8)) (idx : Int) (w : World) (hbv : Seen w.cell? bv bs.length 1 (v8s bs)) (hcv : Seen w.cell? cv chs.length 16 (v8s chs.flatten)) (hlchs : ∀ x ∈ chs, x.length = 16) (hpv : Seen w.cell? pv ps.length 16 (v8s ps.flatten)) (hlps : ∀ x ∈ ps, x.length = 16) (hG : Glb w) :
    Calls Tryd.prog 44 [.int .i64 ht, bv, .agg #[.int .i64 idx, cv, pv]].toArray w (Pur w (.tuple #[.agg (v8s (rootF ht idx bs chs ps)).toArray, .int .i64 (checkFMm ht idx chs.length ps.length)])) := by
  have sbv := hbv.sv
  have lbv := sbv.le
  simp only [maxLen] at lbv
  have scv := hcv.sv
  have lcv := scv.le
  simp only [maxLen] at lcv
  have spv := hpv.sv
  have lpv := spv.le
  simp only [maxLen] at lpv
  refine enter (m := 45) (R := Mem w [] [] []) Tryd.func44 rfl rfl (Nat.le_of_ble_eq_true rfl) (Mem.start w) ?_
  refine wpc_seq <| wpc_region ?_
  refine wpl_t (t_box rfl [.int .i64 idx, cv, pv] rfl) rfl (fun b5 => ?_)
  refine wpl_t (t_alloc Tryd.ti41 (v8s (List.replicate 16 0)) (by rfl)) rfl (fun b6 => ?_)
  refine wpl_q (q_pure rfl) rfl <| wpl_nil <| ex_then <| wpc_seq <| wpc_seq <| wpc_region <| wpl_q (q_pure rfl) rfl ?_
  refine wpl_q (q_ldN Tryd.underlying30 rfl Tryd.ti30 rfl zz2) rfl ?_
  refine wpl_t (t_pur Tryd.hb31 rfl fun w h => check7Mm _ _ _ _ _ _ w zz12 zz23 zz12 zz23) rfl (fun b16 => ?_)
  refine wpl_q (q_pure rfl) rfl <| wpl_nil <| ex_then <| wpc_seq <| wpc_region <| wpl_q (q_pure rfl) rfl <| wpl_q (q_pure rfl) rfl <| wpl_nil <| ex_then ?_
  refine wpc_cond rfl (fun hc18 => ?_) (fun hc18 => ?_)
  ·
   simp only [bne_iff_ne, ne_eq, decide_eq_true_eq] at hc18
   have hr : rootF ht idx bs chs ps = List.replicate 16 0 := if_neg hc18
   refine wpc_seq <| wpc_region ?_
   refine wpl_q (q_build (cs := (v8s (List.replicate 16 0))) rfl (built_array Tryd.underlying41 Tryd.ti41 Tryd.ti5 rfl)) rfl ?_
   refine wpl_q (q_pure rfl) rfl ?_
   refine wpl_t0 (t_stA Tryd.ti41 rfl rfl zz2 (v8s_one _) zz2) (fun _ => ?_)
   refine wpl_q (q_pure rfl) rfl <| wpl_nil <| ex_then <| wpc_ret ?_
   refine ex_then_ret ?_
   refine retv2 (.inl rfl) rfl (rv_agg Tryd.underlying41 rfl Tryd.ti41 rfl (fun w h => h.atB) zz2) (rv_tmp rfl) ?_
   exact fun w h => ⟨by rw [hr], h.below⟩
  ·
   simp only [bne_eq_false_iff_eq, decide_eq_false_iff_not, ne_eq, Decidable.not_not] at hc18
   obtain ⟨m, k, rfl, rfl, hm, hk, hcl, hpl⟩ := check_spec hc18
   have hpw := pow_le16Mm hm
   have hr : rootF (m : Int) (k : Int) bs chs ps = upF (recF bs chs) k ps ps.length := if_pos hc18
   have he : recEr chs = 0 := if_pos hcl
   refine wpc_skip <| ex_then <| wpc_seq <| wpc_region <| wpl_q (q_pure rfl) rfl <| wpl_q (q_field Tryd.underlying30 rfl Tryd.ti28 rfl rfl _ rfl) rfl <| wpl_q (q_ld Tryd.underlying28 rfl rfl rfl) rfl ?_
   refine wpl_t (t_pur Tryd.hb71 rfl fun w h => recover _ _ _ _ w zz12 zz12 zz23 (glob h hG)) rfl (fun b25 => ?_)
   refine wpl_q (q_pure rfl) rfl <| wpl_q (q_pure rfl) rfl <| wpl_q (q_pure rfl) rfl ?_
   refine wpl_t (t_alloc Tryd.ti41 (v8s (List.replicate 16 0)) (by rfl)) rfl (fun b9 => ?_)
   refine wpl_t0 (t_stA Tryd.ti41 rfl rfl zz2 (v8s_one _) zz2) (fun _ => ?_)
   refine wpl_q (q_pure rfl) rfl <| wpl_nil <| ex_then <| wpc_seq <| wpc_region ?_
   refine wpl_q (q_ldN Tryd.underlying41 rfl Tryd.ti41 rfl zz2) rfl ?_
   refine wpl_q (q_field Tryd.underlying30 rfl Tryd.ti3 rfl rfl _ rfl) rfl ?_
   refine wpl_q (q_ld Tryd.underlying3 rfl rfl zz22) rfl ?_
   refine wpl_tp (t_callP2 Tryd.hb72 rfl fun w h => follower7 _ _ w zz42) rfl (fun b31 p31 => ?_)
   refine wpl_q (q_pure rfl) rfl <| wpl_nil <| ex_then <| wpc_seq <| wpc_seq <| wpc_region <| wpl_q (q_field Tryd.underlying30 rfl Tryd.ti28 rfl rfl _ rfl) rfl <| wpl_q (q_ld Tryd.underlying28 rfl rfl rfl) rfl ?_
   refine wpl_q (q_lenW Tryd.underlying28 rfl zz3) rfl ?_
   refine wpl_q (q_pure rfl) rfl <| wpl_nil <| ex_then <| wpc_block ?_
   refine wpc_loopc (ι := { x : Nat // (x ≤ ps.length) }) [(6, _), (9, _), (10, _), (11, _), (33, _), (34, _)] (fun x Lc => (35, .int .i64 ((x.1 : Nat) : Int)) :: Lc) (fun x => Mem w [] [.blk b31.1 3 [.int .i64 ((k / 2 ^ x.1 : Nat) : Int)], .blk b31.2 41 (v8s (upF (recF bs chs) k ps x.1)), .blk b9 41 (v8s (upF (recF bs chs) k ps x.1)), .blk b6 41 (v8s (List.replicate 16 0)), .blk b5 30 [.int .i64 ((k : Nat) : Int), cv, pv]] []) (fun x => ps.length - x.1) ⟨0, zz40⟩ zz9 ?_ ?_
   ·
    exact fun w h => by
      dsimp only
      rw [Nat.pow_zero, Nat.div_one, show upF (recF bs chs) k ps 0 = recF bs chs from rfl]
      first | exact h.sub SubC.h SubC.h | exact h.sub zz7 zz7
   ·
    rintro ⟨i, hi0⟩; try dsimp only
    have hi0 : i ≤ ps.length := hi0
    have hul := upF_length (recF_length bs chs) k ps i
    have hkl : k / 2 ^ i ≤ 1000 := Nat.le_trans (Nat.div_le_self _ _) zz11
    refine wpc_seq <| wpc_region <| wpl_q (q_pure rfl) rfl <| wpl_nil <| ex_then <| wpc_seq ?_
    refine wpc_cond rfl (fun hc36 => ?_) (fun hc36 => ?_)
    ·
     simp only [decide_eq_true_eq] at hc36
     have hgl := getD_mem_len hlps (i := i) zz11
     have hsl := stepU_length (upF (recF bs chs) k ps i) (k / 2 ^ i) (ps.getD i [])
     refine wpc_skip <| ex_then <| wpc_seq <| wpc_block <| wpc_seq <| wpc_region ?_
     refine wpl_q (q_idxW Tryd.underlying28 Tryd.ti41 rfl rfl zz3 zz1) rfl ?_
     refine wpl_q (q_ldWN Tryd.underlying41 rfl Tryd.ti41 rfl (fun w h => zz13) (v8s (ps.getD i [])) (part8 hlps zz11) ((v8s_length _).trans hgl)) rfl ?_
     refine wpl_t (t_alloc Tryd.ti41 (v8s (List.replicate 16 0)) (by rfl)) rfl (fun b13 => ?_)
     refine wpl_t0 (t_stA Tryd.ti41 rfl rfl zz2 (v8s_one _) zz2) (fun _ => ?_)
     refine wpl_nil <| ex_then <| wpc_region <| wpl_q (q_pure rfl) rfl ?_
     refine wpl_q (q_ldN Tryd.underlying41 rfl Tryd.ti41 rfl zz2) rfl ?_
     refine wpl_t (t_turnV2 b31.1 b31.2 [.int .i64 ((k / 2 ^ i / 2 ^ 1 : Nat) : Int)] (v8s (stepU (upF (recF bs chs) k ps i) (k / 2 ^ i) (ps.getD i []))) zz17 rfl Tryd.hb92 rfl fun w h h1 h2 hne => followed7 _ _ _ _ _ w hgl h1 h2 hne hul hkl (own_ne h hG zz4) (own_ne h hG zz4) (glob h hG)) rfl (fun b41 => ?_)
     refine wpl_t0 (t_stA Tryd.ti41 rfl rfl zz2 (v8s_one _) zz2) (fun _ => ?_)
     refine wpl_nil <| ex_block <| ex_then <| wpc_region ?_
     refine wpl_q (q_addN (b := 1) rfl rfl zz1) rfl ?_
     refine wpl_q (q_pure rfl) rfl <| wpl_nil ?_
     refine ex_again ⟨i + 1, zz40⟩ ?_ ?_ ?_
     ·
      exact zz9
     ·
      exact fun w h => by
        dsimp only
        rw [div_step, show upF (recF bs chs) k ps (i + 1) = stepU (upF (recF bs chs) k ps i) (k / 2 ^ i) (ps.getD i []) from rfl]
        first | exact h.sub SubC.h SubC.h | exact h.sub zz7 zz7
     ·
      (show ps.length - (i + 1) < ps.length - i); omega
    ·
     simp only [decide_eq_false_iff_not] at hc36
     obtain rfl : i = ps.length := by omega
     refine wpc_exit ?_
     refine ex_then_exit ?_
     refine ex_then_exit ?_
     refine ex_block_hit ?_
     refine ex_then <| wpc_seq <| wpc_region ?_
     refine wpl_q (q_ldN Tryd.underlying41 rfl Tryd.ti41 rfl zz2) rfl ?_
     refine wpl_q (q_pure rfl) rfl ?_
     refine wpl_t0 (t_stA Tryd.ti41 rfl rfl zz2 (v8s_one _) zz2) (fun _ => ?_)
     refine wpl_q (q_pure rfl) rfl <| wpl_nil <| ex_then <| wpc_ret ?_
     refine retv2 (.inl rfl) rfl (rv_agg Tryd.underlying41 rfl Tryd.ti41 rfl (fun w h => h.atB) zz2) (rv_tmp rfl) ?_
     exact fun w h => ⟨by rw [hr, hc18, he]; rfl, h.below⟩
theorem verify7 (rs : List UInt8) (ht : Int) (bv : Value) (bs : List UInt8) (cv pv : Value) (chs ps : List (List UInt8)) (idx : Int) (w : World) (hrs : rs.length = 16) (hbv : Seen w.cell? bv bs.length 1 (v8s bs)) (hcv : Seen w.cell? cv chs.length 16 (v8s chs.flatten)) (hlchs : ∀ x ∈ chs, x.length = 16) (hpv : Seen w.cell? pv ps.length 16 (v8s ps.flatten)) (hlps : ∀ x ∈ ps, x.length = 16) (hG : Glb w) :
    Calls Tryd.prog 22 [.agg (v8s rs ++ [Value.int .i64 ht]).toArray, bv, .agg #[.int .i64 idx, cv, pv]].toArray w (Pur w (.bool (decide (checkFMm ht idx chs.length ps.length = 0 ∧ rootF ht idx bs chs ps = rs)))) := by
  have sbv := hbv.sv
  have lbv := sbv.le
  simp only [maxLen] at lbv
  have scv := hcv.sv
  have lcv := scv.le
  simp only [maxLen] at lcv
  have spv := hpv.sv
  have lpv := spv.le
  simp only [maxLen] at lpv
  have hrl := rootF_length ht idx bs chs ps
  refine enter (m := 25) (R := Mem w [] [] []) Tryd.func22 rfl rfl (Nat.le_of_ble_eq_true rfl) (Mem.start w) ?_
  refine wpc_seq <| wpc_region ?_
  refine wpl_t (t_box rfl (v8s rs ++ [Value.int .i64 ht]) rfl) rfl (fun b3 => ?_)
  refine wpl_t (t_box rfl [.int .i64 idx, cv, pv] rfl) rfl (fun b5 => ?_)
  refine wpl_q (q_pure rfl) rfl <| wpl_nil <| ex_then <| wpc_seq <| wpc_region <| wpl_q (q_field Tryd.underlying43 rfl Tryd.ti3 rfl rfl _ rfl) rfl <| wpl_q (q_ld Tryd.underlying3 rfl rfl (key_height rs ht hrs)) rfl <| wpl_q (q_pure rfl) rfl ?_
  refine wpl_q (q_ldN Tryd.underlying30 rfl Tryd.ti30 rfl zz2) rfl ?_
  refine wpl_t (t_pur Tryd.hb44 rfl fun w h => root7 _ _ _ _ _ _ _ _ w zz12 zz12 zz23 zz12 zz23 (glob h hG)) rfl (fun b14 => ?_)
  refine wpl_q (q_pure rfl) rfl <| wpl_q (q_pure rfl) rfl <| wpl_q (q_pure rfl) rfl ?_
  refine wpl_t (t_alloc Tryd.ti41 (v8s (List.replicate 16 0)) (by rfl)) rfl (fun b7 => ?_)
  refine wpl_t0 (t_stA Tryd.ti41 rfl rfl zz2 (v8s_one _) zz2) (fun _ => ?_)
  refine wpl_q (q_pure rfl) rfl <| wpl_nil <| ex_then <| wpc_seq <| wpc_region <| wpl_q (q_pure rfl) rfl <| wpl_q (q_pure rfl) rfl <| wpl_q (q_pure rfl) rfl ?_
  refine wpl_bool2 19 18 rfl rfl (fun hb19 => ?_) (fun hb19 => ?_)
  ·
   try simp only [decide_eq_true_eq, decide_eq_false_iff_not, Bool.and_eq_true, Bool.or_eq_true, beq_iff_eq, bne_iff_ne, ne_eq, Bool.not_eq_true', Bool.not_eq_false', Decidable.not_not] at hb19
   refine wpl_on rfl rfl ?_
   refine wpl_q (q_ldN Tryd.underlying41 rfl Tryd.ti41 rfl zz2) rfl ?_
   refine wpl_on rfl rfl <| wpl_q (q_field Tryd.underlying43 rfl Tryd.ti41 rfl rfl _ rfl) rfl <| wpl_on rfl rfl <| wpl_q (q_ldP Tryd.underlying41 rfl Tryd.ti41 rfl (v8s rs) (key_root rs ht hrs) ((v8s_length _).trans hrs)) rfl <| wpl_on rfl rfl ?_
   refine wpl_q (q_eq8 eq8_41Mm zz6 rfl rfl (by first | (first | with_reducible assumption | exact L16.h) | simp) (by first | (first | with_reducible assumption | exact L16.h) | simp)) rfl ?_
   refine wpl_q (q_pure rfl) rfl <| wpl_q (q_pure rfl) rfl <| wpl_nil <| ex_then <| wpc_ret ?_
   refine ret1 (.inl rfl) rfl rfl ?_
   exact fun w h => ⟨by simp [hb19], h.below⟩
  ·
   simp only [beq_eq_false_iff_ne, ne_eq] at hb19
   refine wpl_off rfl rfl rfl rfl <| wpl_off rfl rfl rfl rfl <| wpl_off rfl rfl rfl rfl <| wpl_off rfl rfl rfl rfl <| wpl_q (q_pure rfl) rfl <| wpl_q (q_pure rfl) rfl <| wpl_nil <| ex_then <| wpc_ret ?_
   refine ret1 (.inl rfl) rfl rfl ?_
   exact fun w h => ⟨by simp [hb19], h.below⟩
end Go.Proofs.YtgnablliekgbgaaDoor
namespace Go.Proofs.YtgnablliekgbgaaDoor
open Go Go.PL Go.RowKit
theorem one_v8i (xs : List UInt8) (t : Int) : ∀ u ∈ v8s xs ++ [Value.int .i64 t], u.oneCell' = true := fun u hu => by
  rcases List.mem_append.1 hu with h | h
  · exact v8s_one _ u h
  · rw [List.mem_singleton] at h; subst h; rfl
def verR (l : Rv) (rs : List UInt8) (ht : Int) : Prop := checkFMm ht l.ix l.chs.length l.ps.length = 0 ∧ rootF ht l.ix (bdyB l) l.chs l.ps = rs
instance {l : Rv} {rs : List UInt8} {ht : Int} : Decidable (verR l rs ht) := by unfold verR; exact inferInstance
def verE (l : Rv) (rs : List UInt8) (ht : Int) : Int := if chkR l ≠ 0 then chkR l else if verR l rs ht then 0 else 22
theorem ver_e {l : Rv} {rs : List UInt8} {ht : Int} (h : ¬ chkR l = 0) : verE l rs ht = chkR l := if_pos h
theorem ver_y {l : Rv} {rs : List UInt8} {ht : Int} (h : chkR l = 0) (k : verR l rs ht) : verE l rs ht = 0 := by unfold verE; rw [if_neg (fun e => e h), if_pos k]
theorem ver_n {l : Rv} {rs : List UInt8} {ht : Int} (h : chkR l = 0) (k : ¬ verR l rs ht) : verE l rs ht = 22 := by unfold verE; rw [if_neg (fun e => e h), if_neg k]
end Go.Proofs.YtgnablliekgbgaaDoor
namespace Go.Proofs.YtgnablliekgbgaaDoor
open Go Go.PL Go.RowKit
theorem rvVerify (l : Rv) (rs : List UInt8) (ht : Int) (w : World) (hl : l.seen w.cell?) (hnl : l.nm.length ≤ maxLen) (hrs : rs.length = 16) (hk : RLim l) (hG : Glb w) :
    Calls Tryd.prog 16 [.agg l.c.toArray, .agg (v8s rs ++ [Value.int .i64 ht]).toArray].toArray w (Pur w (.int .i64 (verE l rs ht))) := by
  haveI := hl.svs.one
  have lss := hl.s.sv.le
  have lcs := hl.c.sv.le
  have lps := hl.p.sv.le
  have sss := hl.s.sv
  have scs := hl.c.sv
  have sps := hl.p.sv
  simp only [maxLen] at lss lcs lps
  haveI : LenC (v8s rs ++ [Value.int .i64 ht]) 17 := ⟨by rw [List.length_append, v8s_length, hrs]; rfl⟩
  haveI : OneC (v8s rs ++ [Value.int .i64 ht]) := ⟨one_v8i _ _⟩
  refine enter (m := 21) (R := Mem w [] [] []) Tryd.func16 rfl rfl (Nat.le_of_ble_eq_true rfl) (Mem.start w) ?_
  refine wpc_seq <| wpc_region ?_
  refine wpl_t (t_box rfl l.c rfl) rfl (fun b2 => ?_)
  refine wpl_t (t_box rfl (v8s rs ++ [Value.int .i64 ht]) rfl) rfl (fun b3 => ?_)
  refine wpl_q (q_pure rfl) rfl <| wpl_nil <| ex_then <| wpc_seq <| wpc_region <| wpl_q (q_ldN Tryd.underlying32 rfl Tryd.ti32 rfl LenC.h) rfl ?_
  refine wpl_tp (t_callP1 Tryd.hb15 rfl fun w h => rvBodyB l w (hl.old h rfl) hnl hk.ss hk.nm) rfl (fun b9 p9 => ?_)
  refine wpl_q (q_pure rfl) rfl <| wpl_q (q_pure rfl) rfl <| wpl_q (q_pure rfl) rfl <| wpl_q (q_pure rfl) rfl <| wpl_q (q_pure rfl) rfl <| wpl_nil <| ex_then <| wpc_seq <| wpc_seq <| wpc_region <| wpl_q (q_pure rfl) rfl <| wpl_q (q_pure rfl) rfl ?_
  refine wpl_nil <| ex_then ?_
  refine wpc_cond rfl (fun hc13 => ?_) (fun hc13 => ?_)
  ·
   have hN : ¬ chkR l = 0 := by simpa using hc13
   refine wpc_seq <| wpc_region <| wpl_q (q_pure rfl) rfl <| wpl_q (q_pure rfl) rfl <| wpl_nil <| ex_then <| wpc_ret ?_
   refine ex_then_ret ?_
   refine ret1 (.inl rfl) rfl rfl ?_
   exact fun w1 h => ⟨by rw [ver_e hN]; rfl, h.below⟩
  ·
   have hZ : chkR l = 0 := by simpa using hc13
   refine wpc_skip <| ex_then <| wpc_seq <| wpc_seq <| wpc_region <| wpl_q (q_ldN Tryd.underlying43 rfl Tryd.ti43 rfl LenC.h) rfl <| wpl_q (q_pure rfl) rfl <| wpl_q (q_field Tryd.underlying32 rfl Tryd.ti30 rfl rfl _ rfl) rfl <| wpl_q (q_ldP Tryd.underlying30 rfl Tryd.ti30 rfl l.sig rfl rfl) rfl ?_
   refine wpl_t (t_pur (v := .bool (decide (verR l rs ht))) Tryd.hb22 rfl fun w h => verify7 rs ht b9 (bdyB l) l.cv l.pv l.chs l.ps l.ix w hrs (h.seen_row zz4) (h.seen_old hl.c) hl.lc (h.seen_old hl.p) hl.lp (glob h hG)) rfl (fun b19 => ?_)
   refine wpl_q (q_pure rfl) rfl <| wpl_nil <| ex_then ?_
   refine wpc_cond rfl (fun hc20 => ?_) (fun hc20 => ?_)
   ·
    have hV : ¬ verR l rs ht := by simpa using hc20
    refine wpc_seq <| wpc_region <| wpl_q (q_pure rfl) rfl <| wpl_nil <| ex_then <| wpc_ret ?_
    refine ex_then_ret ?_
    refine ret1 (.inl rfl) rfl rfl ?_
    exact fun w1 h => ⟨by rw [ver_n hZ hV], h.below⟩
   ·
    have hV : verR l rs ht := by simpa using hc20
    refine wpc_skip <| ex_then <| wpc_seq <| wpc_region <| wpl_q (q_pure rfl) rfl <| wpl_nil <| ex_then <| wpc_ret ?_
    refine ret1 (.inl rfl) rfl rfl ?_
    exact fun w1 h => ⟨by rw [ver_y hZ hV], h.below⟩
end Go.Proofs.YtgnablliekgbgaaDoor
namespace Go.Proofs.YtgnablliekgbgaaDoor
open Go Go.PL Go.RowKit
def osR (l : Rv) (idx : Int) (chs ps : List (List UInt8)) (sv cv pv : Value) : Rv := ⟨l.nm, l.no, l.fr, l.tt, sv, l.ss, idx, cv, chs, pv, ps⟩
theorem os_bdy {l : Rv} {idx : Int} {chs ps : List (List UInt8)} {sv cv pv : Value} (h : chkR l = 0) (k : chkR (osR l idx chs ps sv cv pv) = 0) : bdyB l = bdyB (osR l idx chs ps sv cv pv) := by
  rw [bdy_ok h, bdy_ok k]; rfl
theorem big_sg {nc np : Nat} (h : (decide (60 < nc) || decide (60 < np)) = false) : nc ≤ 60 ∧ np ≤ 60 := by
  simp only [Bool.or_eq_false_iff, decide_eq_false_iff_not] at h
  omega
theorem ver_iff {l : Rv} {rs : List UInt8} {ht : Int} (h : chkR l = 0) : decide (verE l rs ht = 0) = decide (verR l rs ht) := by
  by_cases k : verR l rs ht
  · rw [ver_y h k, decide_eq_true k]; rfl
  · rw [ver_n h k, decide_eq_false k]; rfl
theorem ver_22 {l : Rv} {rs : List UInt8} {ht : Int} (h : chkR l = 0) (k : ¬ verE l rs ht = 0) : verE l rs ht = 22 := by
  by_cases k2 : verR l rs ht
  · exact absurd (ver_y h k2) k
  · exact ver_n h k2
theorem lawVerifies11 (l : Rv) (idx : Int) (cv pv : Value) (chs ps : List (List UInt8)) (rs : List UInt8) (ht : Int) (w : World) (hl : l.seen w.cell?) (hnl : l.nm.length ≤ maxLen) (hcv : Seen w.cell? cv chs.length 16 (v8s chs.flatten)) (hlchs : ∀ x ∈ chs, x.length = 16) (hpv : Seen w.cell? pv ps.length 16 (v8s ps.flatten)) (hlps : ∀ x ∈ ps, x.length = 16) (hrs : rs.length = 16) (hG : Glb w) :
    Calls Tryd.prog 5 [.agg l.c.toArray, .agg #[.int .i64 idx, cv, pv], .agg (v8s rs ++ [Value.int .i64 ht]).toArray].toArray w (Pur w (.bool true)) := by
  haveI := hl.svs.one
  have lss := hl.s.sv.le
  have lcs := hl.c.sv.le
  have lps := hl.p.sv.le
  have sss := hl.s.sv
  have scs := hl.c.sv
  have sps := hl.p.sv
  simp only [maxLen] at lss lcs lps
  have scs := hcv.sv
  have sps := hpv.sv
  haveI : OneC [Value.int .i64 idx, cv, pv] := OneC.cons rfl (OneC.cons (SV.one scs) (OneC.cons (SV.one sps) oneC_nil))
  haveI : LenC (v8s rs ++ [Value.int .i64 ht]) 17 := ⟨by rw [List.length_append, v8s_length, hrs]; rfl⟩
  haveI : OneC (v8s rs ++ [Value.int .i64 ht]) := ⟨one_v8i _ _⟩
  refine enter (m := 84) (R := Mem w [] [] []) Tryd.func5 rfl rfl (Nat.le_of_ble_eq_true rfl) (Mem.start w) ?_
  refine wpc_seq <| wpc_region ?_
  refine wpl_t (t_box rfl l.c rfl) rfl (fun b3 => ?_)
  refine wpl_t (t_box rfl [.int .i64 idx, cv, pv] rfl) rfl (fun b4 => ?_)
  refine wpl_t (t_box rfl (v8s rs ++ [Value.int .i64 ht]) rfl) rfl (fun b5 => ?_)
  refine wpl_q (q_pure rfl) rfl <| wpl_nil <| ex_then <| wpc_seq <| wpc_region ?_
  refine wpl_t (t_pur (v := .bool true) Tryd.hb17 rfl fun w h => alive11 w) rfl (fun b14 => ?_)
  refine wpl_q (q_pure rfl) rfl <| wpl_nil <| ex_then <| wpc_seq <| wpc_seq <| wpc_region <| wpl_q (q_ldN Tryd.underlying32 rfl Tryd.ti32 rfl LenC.h) rfl ?_
  refine wpl_t (t_pur Tryd.hb18 rfl fun w h => refRvGreat l w (hl.old h rfl) hnl) rfl (fun b16 => ?_)
  refine wpl_q (q_pure rfl) rfl ?_
  refine wpl_bool2 17 16 rfl rfl (fun hb17 => ?_) (fun hb17 => ?_)
  ·
   refine wpl_off rfl rfl rfl rfl <| wpl_off rfl rfl rfl rfl <| wpl_q (q_pure rfl) rfl <| wpl_q (q_pure rfl) rfl <| wpl_off rfl rfl rfl rfl <| wpl_off rfl rfl rfl rfl <| wpl_q (q_pure rfl) rfl <| wpl_nil <| ex_then ?_
   refine wpc_cond_t rfl ?_
   refine wpc_seq <| wpc_region <| wpl_q (q_pure rfl) rfl <| wpl_q (q_pure rfl) rfl <| wpl_nil <| ex_then <| wpc_ret ?_
   refine ex_then_ret ?_
   refine ret1 (.inl rfl) rfl rfl ?_
   exact fun w h => ⟨by first | rfl | simp, h.below⟩
  ·
   have hk : RLim l := lim_no (l := l) hb17
   refine wpl_on rfl rfl <| wpl_q (q_ldN Tryd.underlying30 rfl Tryd.ti30 rfl LenC.h) rfl <| wpl_on rfl rfl ?_
   refine wpl_t (t_pur Tryd.hb19 rfl fun w h => greatSig idx cv pv chs ps w scs sps) rfl (fun b19 => ?_)
   refine wpl_q (q_pure rfl) rfl <| wpl_q (q_pure rfl) rfl ?_
   refine wpl_bool2 21 19 rfl rfl (fun hb21 => ?_) (fun hb21 => ?_)
   ·
    refine wpl_off rfl rfl rfl rfl <| wpl_off rfl rfl rfl rfl <| wpl_q (q_pure rfl) rfl <| wpl_nil <| ex_then ?_
    refine wpc_cond_t rfl ?_
    refine wpc_seq <| wpc_region <| wpl_q (q_pure rfl) rfl <| wpl_q (q_pure rfl) rfl <| wpl_nil <| ex_then <| wpc_ret ?_
    refine ex_then_ret ?_
    refine ret1 (.inl rfl) rfl rfl ?_
    exact fun w h => ⟨by first | rfl | simp, h.below⟩
   ·
    obtain ⟨hc6, hp6⟩ := big_sg hb21
    refine wpl_on rfl rfl <| wpl_q (q_pure rfl) rfl <| wpl_on rfl rfl <| wpl_q (q_pure rfl) rfl <| wpl_q (q_pure rfl) rfl <| wpl_nil <| ex_then ?_
    refine wpc_cond_f rfl ?_
    refine wpc_skip <| ex_then <| wpc_seq <| wpc_region <| wpl_q (q_ldN Tryd.underlying32 rfl Tryd.ti32 rfl LenC.h) rfl ?_
    refine wpl_tp (t_callP1 Tryd.hb15 rfl fun w h => rvBodyB l w (hl.old h rfl) hnl hk.ss hk.nm) rfl (fun b28 p28 => ?_)
    refine wpl_q (q_pure rfl) rfl <| wpl_q (q_pure rfl) rfl <| wpl_q (q_pure rfl) rfl <| wpl_q (q_pure rfl) rfl <| wpl_q (q_pure rfl) rfl <| wpl_nil <| ex_then <| wpc_seq <| wpc_region <| wpl_q (q_ldN Tryd.underlying32 rfl Tryd.ti32 rfl LenC.h) rfl <| wpl_q (q_ldN Tryd.underlying43 rfl Tryd.ti43 rfl LenC.h) rfl ?_
    refine wpl_t (t_pur Tryd.hb16 rfl fun w h => rvVerify l rs ht w (hl.old h rfl) hnl hrs hk (glob h hG)) rfl (fun b33 => ?_)
    refine wpl_q (q_pure rfl) rfl <| wpl_nil <| ex_then <| wpc_seq <| wpc_seq <| wpc_region <| wpl_q (q_pure rfl) rfl <| wpl_q (q_pure rfl) rfl <| wpl_nil <| ex_then ?_
    refine wpc_cond rfl (fun hc35 => ?_) (fun hc35 => ?_)
    ·
     have hN : ¬ chkR l = 0 := by simpa using hc35
     refine wpc_seq <| wpc_region <| wpl_q (q_pure rfl) rfl <| wpl_q (q_pure rfl) rfl <| wpl_on rfl rfl <| wpl_q (q_pure rfl) rfl <| wpl_on rfl rfl <| wpl_q (q_pure rfl) rfl <| wpl_on rfl rfl <| wpl_q (q_tru (q_eqI rfl rfl) (ver_e hN)) rfl <| wpl_q (q_pure rfl) rfl <| wpl_q (q_pure rfl) rfl ?_
     refine wpl_on rfl rfl <| wpl_q (q_pure rfl) rfl <| wpl_on rfl rfl ?_
     refine wpl_q (q_lenW Tryd.underlying34 rfl zz3) rfl ?_
     refine wpl_on rfl rfl ?_
     refine wpl_q (q_tru (q_eqI rfl rfl) (by rw [bdy_no hN]; rfl)) rfl ?_
     refine wpl_q (q_pure rfl) rfl <| wpl_q (q_pure rfl) rfl <| wpl_nil <| ex_then <| wpc_ret ?_
     refine ex_then_ret ?_
     refine ret1 (.inl rfl) rfl rfl ?_
     exact fun w h => ⟨by first | rfl | simp, h.below⟩
    ·
     have hZ : chkR l = 0 := by simpa using hc35
     refine wpc_skip <| ex_then <| wpc_seq <| wpc_region <| wpl_q (q_ldN Tryd.underlying32 rfl Tryd.ti32 rfl LenC.h) rfl ?_
     refine wpl_tp (t_callP3 Tryd.hb13 rfl fun w h => refRvTwin l w (hl.old h rfl) hnl hk.ss hk.c hk.p) rfl (fun b48 p48 => ?_)
     haveI : OneC (l.re b48).c := Rv.svs.one (l := l.re b48) p48
     refine wpl_t (t_alloc Tryd.ti32 Rv.z.c rfl) rfl (fun b11 => ?_)
     refine wpl_t0 (t_stA Tryd.ti32 rfl rfl LenC.h OneC.h LenC.h) (fun _ => ?_)
     refine wpl_nil <| ex_then <| wpc_seq <| wpc_region <| wpl_q (q_ldN Tryd.underlying30 rfl Tryd.ti30 rfl LenC.h) rfl ?_
     refine wpl_tp (t_callP2 Tryd.hb20 rfl fun w h => twinSig idx cv pv chs ps w (h.seen_old hcv) hlchs (h.seen_old hpv) hlps zz11 zz11) rfl (fun b50 p50 => ?_)
     haveI : OneC (osR l idx chs ps b48.1 b50.1 b50.2).c := Rv.svs.one (l := (osR l idx chs ps b48.1 b50.1 b50.2)) ⟨p48.1, p50.1, p50.2⟩
     refine wpl_q (q_field Tryd.underlying32 rfl Tryd.ti30 rfl rfl _ rfl) rfl ?_
     refine wpl_t0 (t_stP Tryd.ti30 rfl rfl zz2 (OneC.cons rfl (OneC.cons (SV.one p50.1) (OneC.cons (SV.one p50.2) oneC_nil))).h (by rw [Rv.c_len]; exact Nat.le_refl 8) (osR l idx chs ps b48.1 b50.1 b50.2).c rfl) (fun _ => ?_)
     refine wpl_nil <| ex_then <| wpc_seq <| wpc_region <| wpl_q (q_ldN Tryd.underlying32 rfl Tryd.ti32 rfl LenC.h) rfl ?_
     refine wpl_tp (t_callP1 Tryd.hb15 rfl fun w h => rvBodyB (osR l idx chs ps b48.1 b50.1 b50.2) w ⟨(show Seen w.cell? b48.1 l.ss.length 1 (v64s l.ss) from h.seen_row zz4), (show Seen w.cell? b50.1 chs.length 16 (v8s chs.flatten) from h.seen_row zz4), hlchs, (show Seen w.cell? b50.2 ps.length 16 (v8s ps.flatten) from h.seen_row zz4), hlps⟩ hnl hk.ss hk.nm) rfl (fun b54 p54 => ?_)
     refine wpl_q (q_pure rfl) rfl <| wpl_q (q_pure rfl) rfl <| wpl_q (q_pure rfl) rfl <| wpl_q (q_pure rfl) rfl <| wpl_q (q_pure rfl) rfl <| wpl_nil <| ex_then <| wpc_seq <| wpc_seq <| wpc_region <| wpl_q (q_pure rfl) rfl <| wpl_q (q_pure rfl) rfl ?_
     refine wpl_q (q_pure rfl) rfl ?_
     refine wpl_bool2 59 58 rfl rfl (fun hb59 => ?_) (fun hb59 => ?_)
     ·
      have hZ2 : chkR (osR l idx chs ps b48.1 b50.1 b50.2) = 0 := by simpa using hb59
      refine wpl_on rfl rfl <| wpl_q (q_pure rfl) rfl <| wpl_on rfl rfl <| wpl_q (q_pure rfl) rfl <| wpl_on rfl rfl ?_
      refine wpl_t (t_pur (v := .bool true) Tryd.hb21 rfl fun w h => by
        have q := sameB b28 (bdyB l) b54 (bdyB (osR l idx chs ps b48.1 b50.1 b50.2)) w (h.seen_row zz4) (h.seen_row zz4)
        rwa [decide_eq_true (os_bdy hZ hZ2)] at q) rfl (fun b62 => ?_)
      refine wpl_on rfl rfl <| wpl_q (q_pure rfl) rfl <| wpl_q (q_pure rfl) rfl <| wpl_nil <| ex_then ?_
      refine wpc_cond_f rfl ?_
      refine wpc_skip <| ex_then <| wpc_seq <| wpc_region <| wpl_q (q_pure rfl) rfl <| wpl_q (q_pure rfl) rfl <| wpl_on rfl rfl <| wpl_q (q_pure rfl) rfl <| wpl_on rfl rfl <| wpl_q (q_pure rfl) rfl <| wpl_on rfl rfl <| wpl_q (q_ldN Tryd.underlying43 rfl Tryd.ti43 rfl LenC.h) rfl ?_
      refine wpl_on rfl rfl <| wpl_q (q_pure rfl) rfl <| wpl_on rfl rfl <| wpl_q (q_field Tryd.underlying32 rfl Tryd.ti30 rfl rfl _ rfl) rfl <| wpl_on rfl rfl <| wpl_q (q_ldP Tryd.underlying30 rfl Tryd.ti30 rfl l.sig rfl rfl) rfl <| wpl_on rfl rfl ?_
      refine wpl_t (t_pur (v := .bool (decide (verR l rs ht))) Tryd.hb22 rfl fun w h => verify7 rs ht b28 (bdyB l) l.cv l.pv l.chs l.ps l.ix w hrs (h.seen_row zz4) (h.seen_old hl.c) hl.lc (h.seen_old hl.p) hl.lp (glob h hG)) rfl (fun b73 => ?_)
      refine wpl_on rfl rfl <| wpl_q (q_beq Tryd.underlying4 rfl rfl) rfl <| wpl_q (q_pure rfl) rfl <| wpl_q (q_pure rfl) rfl ?_
      refine wpl_bool2 76 74 rfl rfl (fun hb76 => ?_) (fun hb76 => ?_)
      ·
       refine wpl_on rfl rfl <| wpl_q (q_pure rfl) rfl <| wpl_on rfl rfl <| wpl_q (q_pure rfl) rfl <| wpl_on rfl rfl <| wpl_q (q_pure rfl) rfl ?_
       refine wpl_bool2 79 78 rfl rfl (fun hb79 => ?_) (fun hb79 => ?_)
       ·
        refine wpl_off rfl rfl rfl rfl <| wpl_off rfl rfl rfl rfl <| wpl_on rfl rfl <| wpl_q (q_pure rfl) rfl <| wpl_q (q_pure rfl) rfl <| wpl_q (q_pure rfl) rfl <| wpl_nil <| ex_then <| wpc_ret ?_
        refine ret1 (.inl rfl) rfl rfl ?_
        exact fun w h => ⟨by first | rfl | simp, h.below⟩
       ·
        have hv22 := ver_22 (rs := rs) (ht := ht) hZ (by simpa using hb79)
        refine wpl_on rfl rfl <| wpl_q (q_pure rfl) rfl <| wpl_on rfl rfl <| wpl_q (q_tru (q_eqI rfl rfl) hv22) rfl <| wpl_on rfl rfl <| wpl_q (q_pure rfl) rfl <| wpl_q (q_pure rfl) rfl <| wpl_q (q_pure rfl) rfl <| wpl_nil <| ex_then <| wpc_ret ?_
        refine ret1 (.inl rfl) rfl rfl ?_
        exact fun w h => ⟨by first | rfl | simp, h.below⟩
      ·
       have q := ver_iff (rs := rs) (ht := ht) hZ; have e : (verE l rs ht == 0) = decide (verE l rs ht = 0) := rfl; rw [e, q] at hb76; simp at hb76
     ·
      try simp only [decide_eq_true_eq, decide_eq_false_iff_not, Bool.and_eq_true, Bool.or_eq_true, beq_iff_eq, bne_iff_ne, ne_eq, Bool.not_eq_true', Bool.not_eq_false', Decidable.not_not] at hb59
      refine wpl_off rfl rfl rfl rfl <| wpl_off rfl rfl rfl rfl <| wpl_off rfl rfl rfl rfl <| wpl_off rfl rfl rfl rfl <| wpl_q (q_pure rfl) rfl <| wpl_nil <| ex_then ?_
      refine wpc_cond_f rfl ?_
      refine wpc_skip <| ex_then <| wpc_seq <| wpc_region <| wpl_q (q_pure rfl) rfl <| wpl_q (q_pure rfl) rfl <| wpl_on rfl rfl <| wpl_q (q_pure rfl) rfl <| wpl_on rfl rfl <| wpl_q (q_pure rfl) rfl <| wpl_on rfl rfl <| wpl_q (q_ldN Tryd.underlying43 rfl Tryd.ti43 rfl LenC.h) rfl ?_
      refine wpl_on rfl rfl <| wpl_q (q_pure rfl) rfl <| wpl_on rfl rfl <| wpl_q (q_field Tryd.underlying32 rfl Tryd.ti30 rfl rfl _ rfl) rfl <| wpl_on rfl rfl <| wpl_q (q_ldP Tryd.underlying30 rfl Tryd.ti30 rfl l.sig rfl rfl) rfl <| wpl_on rfl rfl ?_
      refine wpl_t (t_pur (v := .bool (decide (verR l rs ht))) Tryd.hb22 rfl fun w h => verify7 rs ht b28 (bdyB l) l.cv l.pv l.chs l.ps l.ix w hrs (h.seen_row zz4) (h.seen_old hl.c) hl.lc (h.seen_old hl.p) hl.lp (glob h hG)) rfl (fun b73 => ?_)
      refine wpl_on rfl rfl <| wpl_q (q_beq Tryd.underlying4 rfl rfl) rfl <| wpl_q (q_pure rfl) rfl <| wpl_q (q_pure rfl) rfl ?_
      refine wpl_bool2 76 74 rfl rfl (fun hb76 => ?_) (fun hb76 => ?_)
      ·
       refine wpl_on rfl rfl <| wpl_q (q_pure rfl) rfl <| wpl_on rfl rfl <| wpl_q (q_pure rfl) rfl <| wpl_on rfl rfl <| wpl_q (q_pure rfl) rfl ?_
       refine wpl_bool2 79 78 rfl rfl (fun hb79 => ?_) (fun hb79 => ?_)
       ·
        refine wpl_off rfl rfl rfl rfl <| wpl_off rfl rfl rfl rfl <| wpl_on rfl rfl <| wpl_q (q_pure rfl) rfl <| wpl_q (q_pure rfl) rfl <| wpl_q (q_pure rfl) rfl <| wpl_nil <| ex_then <| wpc_ret ?_
        refine ret1 (.inl rfl) rfl rfl ?_
        exact fun w h => ⟨by first | rfl | simp, h.below⟩
       ·
        have hv22 := ver_22 (rs := rs) (ht := ht) hZ (by simpa using hb79)
        refine wpl_on rfl rfl <| wpl_q (q_pure rfl) rfl <| wpl_on rfl rfl <| wpl_q (q_tru (q_eqI rfl rfl) hv22) rfl <| wpl_on rfl rfl <| wpl_q (q_pure rfl) rfl <| wpl_q (q_pure rfl) rfl <| wpl_q (q_pure rfl) rfl <| wpl_nil <| ex_then <| wpc_ret ?_
        refine ret1 (.inl rfl) rfl rfl ?_
        exact fun w h => ⟨by first | rfl | simp, h.below⟩
      ·
       have q := ver_iff (rs := rs) (ht := ht) hZ; have e : (verE l rs ht == 0) = decide (verE l rs ht = 0) := rfl; rw [e, q] at hb76; simp at hb76
end Go.Proofs.YtgnablliekgbgaaDoor
